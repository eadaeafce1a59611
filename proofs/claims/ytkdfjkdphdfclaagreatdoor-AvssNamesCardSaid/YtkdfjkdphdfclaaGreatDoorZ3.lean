/- Proves for the statement AvssNamesCardSaid, under no other condition than the statement's own, that the card avssNames holds of the program. Part 3. -/
import Derived.Test.YtkdfjkdphdfclaaGreatDoorZ2
import Derived.Deep.RegionWith
set_option maxRecDepth 100000
set_option maxHeartbeats 16000000
set_option linter.unusedVariables false
set_option linter.unusedSimpArgs false
namespace Go.Proofs.YtkdfjkdphdfclaaGreatDoor
section
open Go.RowKit
theorem Sl.ofBk{w:World}{g:Nat}{t:TypeId}{l:List Int}(h:Bk w g t (nums l).toArray)(hu: ∀x∈l,U64 x)(hl:l.length≤9223372036854775807):Sl ze (fun _=>True) w (.slice (some ⟨g,0,none⟩) l.length l.length) l:=by
 refine ⟨_,_,rfl,Nat.le_refl _,hl,fun _=>⟨g,0,rfl,h.lt,trivial,fun i hi=>⟨_,⟨rfl,hu _ (List.getElem_mem hi)⟩,fun j u hj=> ?_⟩⟩⟩;have hj0:j=0:=by
  have:=(List.getElem?_eq_some_iff.1 hj).1
  simp at this;exact this
 subst hj0;simp at hj;subst hj;rw [h.cell];simp [nums,ze,hi]
theorem TJ{w w':World}(hg:w.grownBy w' none){n:Nat}(hn:n≤w.heap.size): ∀b o,b< n→w'.cell? ⟨b,o,none⟩=w.cell? ⟨b,o,none⟩:=fun b o h=>World.cell?_of_block (hg.block b (by omega) (by simp))
theorem Pu{w' W:World}{n:Nat}(h: ∀b o,b< n→w'.cell? ⟨b,o,none⟩=W.cell? ⟨b,o,none⟩)(hn:n≤w'.heap.size)(ob:Obj): ∀b o,b< n→(w'.alloc ob).cell? ⟨b,o,none⟩=W.cell? ⟨b,o,none⟩:=fun b o hb=>(World.cell?_alloc_lt w' ob ⟨b,o,none⟩ (by simp;omega)).trans (h b o hb)
theorem Rj(p:Par)(a b:Int)(w:World)(ha:U64 a)(hb:U64 b):
  Calls Tryz.prog 143 #[p.v, .slice (some ⟨w.heap.size,0,none⟩) 2 2] (w.alloc (Obj.cells #[.int .u64 a, .int .u64 b] 22)) fun e w'=>e= .returned (.int .u64 (yq p.P [a,b]))∧w.grownBy w' none:=
 (Rk p _ [a,b] (fun _=>True) _ (Sl.ofBk (t:=22) (Bk.new w 22 (nums [a,b]).toArray) (by intro y hy;simp at hy;rcases hy with rfl|rfl<;>assumption) (by simp))).mono fun _ _ ⟨he,hg⟩=>⟨he,(gAl w _ none).trans hg⟩
theorem Vr(p:Par)(w:World):
  Calls Tryz.prog 143 #[p.v, .slice none 0 0] w fun e w'=>e= .returned (.int .u64 (yq p.P []))∧w.grownBy w' none:=
 Rk p _ [] (fun _=>True) w (Sl.nil _ _ _)
theorem YW(p:Par)(x e:Int)(w:World)(hx:U64 x)(he:U64 e):
  Calls Tryz.prog 140 #[p.v, .int .u64 x, .int .u64 e] w fun e' w'=>e'= .returned (.int .u64 (Um x e p.P))∧w.grownBy w' none:=by
 go_enter Tryz.func140,Tryz.ntmps140;go_wp2_with fail;refine (MJ x e p.P _ hx he).mono ?_;rintro e w' ⟨rfl,n,rfl⟩;go_wp2;go_ret;exact ⟨rfl,zf (gAl w _ none) n⟩
def zr(p:Par)(x:Int×Int):Int:=yq p.P [Um p.G x.1 p.P,Um p.H x.2 p.P]
theorem Zz(p:Par)(x:Int×Int)(w:World)(hp:p.ok)(h1:U64 x.1)(h2:U64 x.2):
  Calls Tryz.prog 95 #[p.v, .agg #[.int .u64 x.1, .int .u64 x.2]] w fun e' w'=>e'= .returned (.int .u64 (zr p x))∧w.grownBy w' none:=by
 have HG:Hid (U64 p.G):=za hp.G;have HH:Hid (U64 p.H):=za hp.H;have H1:=za h1;have H2:=za h2;have HU:=za (VC p.G x.1 p.P);have HL:=za (VC p.H x.2 p.P);clear hp h1 h2;go_enter Tryz.func95,Tryz.ntmps95;go_wp2_with fail;go_region_held3 (fun w'=> ∀b o,b< w.heap.size+2→w'.cell? ⟨b,o,none⟩=((w.alloc (Obj.cells p.cells 39)).alloc (Obj.cells #[.int .u64 x.1, .int .u64 x.2] 153)).cell? ⟨b,o,none⟩) (first|assumption|exact Pu (by assumption) (by assumption) _|go_keep)
  (first
  |(go_at_call 140;(with_reducible refine (YW p p.G x.1 _ HG.out H1.out).mono ?_);rintro e w1 ⟨rfl,hg⟩;have HG1:=za hg;have hc1:=TJ (n:=w.heap.size+2) hg (by simp);clear hg)
  |(go_at_call 140;(with_reducible refine (YW p p.H x.2 _ HH.out H2.out).mono ?_);rintro e w2 ⟨rfl,hg⟩;have HG2:=za (HG1.out.trans hg);have hc2:=TJ (n:=w.heap.size+2) HG2.out (by simp);have hs2:w.heap.size+2≤w2.heap.size:=Nat.le_trans (by simp) HG2.out.size;clear hg)
  |(go_at_call 143;(with_reducible refine (Rj p _ _ w2 HU.out HL.out).mono ?_);rintro e w3 ⟨rfl,hg⟩;have HG3:=za (HG2.out.trans hg);have hc3:=TJ (n:=w.heap.size+2) HG3.out (by simp);clear hg))
 go_wp2;go_ret;exact ⟨rfl,((gAl w _ none).trans (gAl _ _ none)).trans (zf gRf 1|>.trans HG3.out)⟩
def isB(p:Par)(x:Int):Bool:=decide (1≤x) && decide (x< p.P) && Um x p.Q p.P==1
theorem Li(p:Par)(x:Int)(w:World)(hp:p.ok)(h1:U64 x):
  Calls Tryz.prog 83 #[p.v, .int .u64 x] w fun e' w'=>e'= .returned (.bool (isB p x))∧w.grownBy w' none:=by
 have HQ:Hid (U64 p.Q):=za hp.Q;have H1:=za h1;clear hp h1;by_cases ha:1≤x
 ·by_cases hb:x< p.P
  ·have HE:Hid (isB p x=(Um x p.Q p.P==1)):=za (by simp [isB,ha,hb]);go_enter Tryz.func83,Tryz.ntmps83;go_wp2_with fail;refine (YW p x p.Q _ H1.out HQ.out).mono ?_;rintro e w1 ⟨rfl,hg⟩;have HG:=za hg;clear hg;go_wp2;go_ret;exact ⟨zm HE.out.symm,(gAl w _ none).trans HG.out⟩
  ·have HE:Hid (isB p x=false):=za (by simp [isB,hb]);have hb':decide (x< p.P)=false:=by simpa using hb
   clear hb;go_enter Tryz.func83,Tryz.ntmps83;go_wp2_with fail;go_ret;exact ⟨zm HE.out.symm,gAl w _ none⟩
 ·have HE:Hid (isB p x=false):=za (by simp [isB,ha]);go_enter Tryz.func83,Tryz.ntmps83;go_wp2_with fail;go_ret;exact ⟨zm HE.out.symm,gAl w _ none⟩
def Gn(p:Par)(i:Int):List Int→Int→Int→Int
 | [],x,_=>x
 |y::l,x,e=>Gn p i l (yq p.P [x,Um y e p.P]) (yg e i p.Q)
def atI(p:Par)(l:List Int)(i:Int):Int:=Gn p i l (yq p.P []) (yg 1 1 p.Q)
theorem Kh(p:Par)(i:Int)(l:List Int)(j:Nat)(h:j< l.length)(x e:Int):Gn p i (l.drop j) x e=Gn p i (l.drop (j+1)) (yq p.P [x,Um l[j] e p.P]) (yg e i p.Q):=by
 rw [List.drop_eq_getElem_cons h];rfl
theorem Fk(p:Par)(v:Value)(l:List Int)(i:Int)(X:Nat→Prop)(w:World)(h:Sl ze X w v l)(hi:U64 i):
  Calls Tryz.prog 92 #[p.v,v, .int .u64 i] w fun e' w'=>e'= .returned (.int .u64 (atI p l i))∧w.grownBy w' none:=by
 have H:=za h;have HI:=za hi;obtain ⟨A,c,rfl,h1,h2⟩:=h.form;clear h hi;go_enter Tryz.func92,Tryz.ntmps92;go_wp2_with fail;refine (Vr p _).mono ?_;rintro e w1 ⟨rfl,hg⟩;have HG:=za hg;have HB:Hid (Bk w1 w.heap.size 39 p.cells):=za ((Bk.new w _ _).grown hg (by simp));have hc1:=HB.out.prule;clear hg;go_wp2_with fail;refine (Zl 1 1 p.Q _ (by decide) (by decide)).mono ?_;rintro e w' ⟨rfl,n,rfl⟩;have HS:Hid (U64 (yq p.P [])∧U64 (yg 1 1 p.Q)∧w.grownBy (w1.drewN n) none∧Bk (w1.drewN n) w.heap.size 39 p.cells∧Gn p i (l.drop 0) (yq p.P []) (yg 1 1 p.Q)=atI p l i):=
  za ⟨yO _ _,yD _ _ _,zf ((gAl w _ none).trans HG.out) n,HB.out.drewN n,rfl⟩
 clear HB HG hc1;go_wp2_with fail;go_loopg [7,8,18] l.length (fun g sx se si wx=> ∃(j:Nat) (x e:Int),j+g=l.length∧si= .int .i64 j∧sx= .int .u64 x∧se= .int .u64 e∧Hid (U64 x∧U64 e∧w.grownBy wx none∧Bk wx w.heap.size 39 p.cells∧Gn p i (l.drop j) x e=atI p l i))
 case atStart=>exact ⟨0,_,_,by omega,rfl,rfl,rfl,HS⟩
 case round=>
  obtain ⟨j,x,e,hj,rfl,rfl,rfl,HX⟩:=hrel;cases gk with
  |zero=>
   obtain rfl:j=l.length:=by omega
   have HE:Hid (x=atI p l i):=za (by have:=HX.out.2.2.2.2;rwa [List.drop_length] at this);have HGG:=za HX.out.2.2.1;clear HX;go_wp2;go_ret;exact ⟨QW HE.out,HGG.out⟩
  |succ k=>
   have hjn:(j:Int)< (l.length:Int):=by omega
   have hjN:j< l.length:=by omega
   obtain ⟨hx,he,hg,hb,hs⟩:=HX.out;obtain ⟨g,o,c',e',_,_,hc,hu⟩:=(H.out.kept hg).atU hjN;injection e' with e1 e2 e3
   subst e1 e3;have hp:=hb.prule;rw [Kh p i l j hjN] at hs;have HS:=za hs;have HXu:=za hx;have HEu:=za he;have HU:=za hu;have HGr:=za hg;have HBk:=za hb;generalize l[j]=y at *;clear hx he hg hb hs hu e2 HX;go_wp2_with fail;go_region_held3 (fun w'=> ∀o,w'.cell? ⟨w.heap.size,o,none⟩=(#[.int .u64 p.P, .int .u64 p.Q, .int .u64 p.G, .int .u64 p.H, .int .i64 p.Nodes, .int .i64 p.N, .int .i64 p.T, .int .i64 p.K, .int .i64 p.D, .int .i64 p.R, .int .i64 p.M, .int .i64 p.X]:Array Value)[o]?) (first|assumption|exact yP (by assumption) (by assumption) _|go_keep)
    (first
    |(go_at_call 140;(with_reducible refine (YW p y e _ HU.out HEu.out).mono ?_);rintro e' w2 ⟨rfl,hg⟩;have HG2:=za hg;have HB2:=za ((HBk.out.drewN 1).grown hg (by simp));have hp2:=HB2.out.prule;have hs2:=HB2.out.lt;clear hg)
    |(go_at_call 143;(with_reducible refine (Rj p x (Um y e p.P) w2 HXu.out (VC y e p.P)).mono ?_);rintro e' w3 ⟨rfl,hg⟩;have HG3:=za hg;have HB3:=za (HB2.out.grown hg (by simp));have hp3:=HB3.out.prule;clear hg))
   go_wp2_with fail;refine (Zl e i p.Q _ HEu.out HI.out).mono ?_;rintro e' w' ⟨rfl,n',rfl⟩;go_wp2;go_roundg k
   case measure=>omega
   case rel=>exact ⟨j+1,_,_,by omega,by go_num,rfl,rfl,za ⟨yO _ _,yD _ _ _,zf ((HGr.out.trans (zf (World.grownBy.refl wr none) 1)).trans (HG2.out.trans HG3.out)) n',HB3.out.drewN n',HS.out⟩⟩
end
section
open Go.RowKit
theorem Ot(p:Par)(i:Int): ∀(l:List Int) (x e:Int),U64 x→U64 (Gn p i l x e)
 | [],_,_,h=>h
 |_::l,_,_,_=>Ot p i l _ _ (yO _ _)
theorem Gm(p:Par)(l:List Int)(i:Int):U64 (atI p l i):=Ot p i l _ _ (yO _ _)
def zP(p:Par)(coms:List (List Int))(i:Int):List Int:=coms.map fun l=>atI p l i
def yB(l:List (List Int)):Nat:=l.foldl (fun n c=>max n c.length) 0
def TY(p:Par)(l:List (List Int))(j:Nat):List Int:=l.map fun c=>c[j]?.getD (yq p.P [])
def yl(p:Par)(l:List (List Int)):List (List Int):=(List.range (yB l)).map (TY p l)
def zT(p:Par)(m:List (List (List Int)))(x:Int):List (List Int):=m.map fun l=>zP p (yl p l) x
def xy(p:Par)(m:List (List (List Int)))(y:Int):List (List Int):=m.map fun l=>zP p l y
theorem yu{α β:Type}(f:α→β)(l:List α)(j:Nat)(h:j< l.length):(l.take (j+1)).map f=(l.take j).map f++ [f l[j]]:=by
 rw [List.take_succ_eq_append_getElem h,List.map_append];rfl
theorem YR(p:Par)(v:Value)(ls:List (List Int))(i:Int)(X:Nat→Prop)(w:World)(h:Sl (zh ze) X w v ls)(hi:U64 i)(hb:ls.length≤100000):
  Calls Tryz.prog 41 #[p.v,v, .int .u64 i] w (zH ze (fun g=>w.heap.size≤g) w (zP p ls i)):=by
 have H:=za h;have HI:=za hi;obtain ⟨A,c,rfl,hc1,hc2⟩:=h.form;have HST:Hid (Acc ze w.heap.size 22 (fun g=>w.heap.size≤g) (w.alloc (Obj.cells p.cells 39)) (.slice none 0 0) ((ls.take 0).map fun l=>atI p l i)∧w.grownBy (w.alloc (Obj.cells p.cells 39)) none∧Bk (w.alloc (Obj.cells p.cells 39)) w.heap.size 39 p.cells):=za ⟨Acc.nil _ _ _ _ _,gAl w _ none,Bk.new w _ _⟩;clear h hi;go_enter Tryz.func41,Tryz.ntmps41;go_wp2_with fail;go_loopg [7,12] ls.length (fun g s7 s12 wx=> ∃j:Nat,j+g=ls.length∧s12= .int .i64 j∧Hid (Acc ze w.heap.size 22 (fun g=>w.heap.size≤g) wx s7 ((ls.take j).map fun l=>atI p l i)∧w.grownBy wx none∧Bk wx w.heap.size 39 p.cells))
 case atStart=>exact ⟨0,by omega,rfl,HST⟩
 case round=>
  obtain ⟨j,hj,rfl,HX⟩:=hrel;cases gk with
  |zero=>
   obtain rfl:j=ls.length:=by omega
   have HR:Hid (Sl ze (fun g=>w.heap.size≤g) wr u7 (zP p ls i)∧w.grownBy wr none):=za ⟨by have:=HX.out.1.sl;rwa [List.take_length] at this,HX.out.2.1⟩;clear HX HST;go_wp2;go_ret;exact ⟨_,rfl,HR.out.1,HR.out.2⟩
  |succ m=>
   have hjn:(j:Int)< (ls.length:Int):=by omega
   have hjN:j< ls.length:=by omega
   obtain ⟨hacc,hg,hbp⟩:=HX.out;obtain ⟨g,o,c',u,e,_,_,hcu,hsu⟩:=(H.out.kept hg).atS hjN;injection e with e1 e2 e3
   subst e1 e3;obtain ⟨A1,c1,e1,_,_⟩:=hsu.form;subst e1;have HSN:=za (yu (fun l=>atI p l i) ls j hjN);have HF:=za (Fk p _ ls[j] i X wr hsu HI.out);have HU:=za (Gm p ls[j] i);have HAC:=za hacc;have HG:=za hg;have HBp:=za hbp;have hp:=hbp.prule;have HLB:Hid ((((ls.take j).map fun l=>atI p l i).length+1)*8≤140737488355328):=za (by simp;omega);clear hacc hg hbp hsu e2 HX HST;generalize hy:ls[j]=y at HSN HF HU hcu;clear hy;generalize y.length=n1 at *;go_wp2_with fail;refine HF.out.mono ?_;rintro e' w1 ⟨rfl,hg1⟩;have HG2:=za (HG.out.trans hg1);have HA1:=za (HAC.out.kept hg1);have HBp1:=za (HBp.out.grown hg1 (by simp));clear hg1 hp;go_wp2_with (at_builtin;refine zC rfl (.tmp 16) (.tmp 21) rfl (E:=ze) xd HG2.out HA1.out (fun _ h=>h) ⟨rfl,HU.out⟩ HLB.out rfl rfl ?_);intro v2 w2 hacc2 hg2 hgo;have HFIN:Hid (Acc ze w.heap.size 22 (fun g=>w.heap.size≤g) w2 v2 ((ls.take (j+1)).map fun l=>atI p l i)∧w.grownBy w2 none∧Bk w2 w.heap.size 39 p.cells):=za ⟨by rw [HSN.out];simpa using hacc2,hg2,HBp1.out.grown hgo (fun e=>HA1.out.ne_bk HBp1.out (by decide) e.symm)⟩;clear hacc2 hg2 hgo;go_wp2_with fail;go_roundg m
   case measure=>omega
   case rel=>exact ⟨j+1,by omega,by go_num,HFIN⟩
theorem Sl.fresh{α:Type}{E:Enc α}{w0 w w':World}{v u:Value}{xs:List α}{base:Nat}{e:TypeId}{β:Type}{F:Enc β}{Y:Nat→Prop}{ys:List β}(h:Sl E (fun g=>w.heap.size≤g) w' v xs)(hg:w0.grownBy w none)(ha:Acc F base e Y w u ys):
  Sl E (fun g=>w0.heap.size≤g∧some g≠u.ownBlock) w' v xs:=
 h.more fun g _ h=>⟨Nat.le_trans hg.size h,fun e=>by have:=(ha.lt g e.symm).2;omega⟩
theorem Pt(p:Par)(v:Value)(m:List (List (List Int)))(y:Int)(X:Nat→Prop)(w:World)(h:Sl (zh (zh ze)) X w v m)(hy:U64 y)(hb:m.length≤100000)(hb2: ∀l∈m,l.length≤100000):
  Calls Tryz.prog 164 #[p.v,v, .int .u64 y] w (zH (zh ze) (fun g=>w.heap.size≤g) w (xy p m y)):=by
 have H:=za h;have HI:=za hy;have HB2:=za hb2;obtain ⟨A,c,rfl,hc1,hc2⟩:=h.form;have HST:Hid (Acc (zh ze) w.heap.size 31 (fun g=>w.heap.size≤g) (w.alloc (Obj.cells p.cells 39)) (.slice none 0 0) ((m.take 0).map fun l=>zP p l y)∧w.grownBy (w.alloc (Obj.cells p.cells 39)) none∧Bk (w.alloc (Obj.cells p.cells 39)) w.heap.size 39 p.cells):=za ⟨Acc.nil _ _ _ _ _,gAl w _ none,Bk.new w _ _⟩;clear h hy hb2;go_enter Tryz.func164,Tryz.ntmps164;go_wp2_with fail;go_loopg [7,12] m.length (fun g s7 s12 wx=> ∃j:Nat,j+g=m.length∧s12= .int .i64 j∧Hid (Acc (zh ze) w.heap.size 31 (fun g=>w.heap.size≤g) wx s7 ((m.take j).map fun l=>zP p l y)∧w.grownBy wx none∧Bk wx w.heap.size 39 p.cells))
 case atStart=>exact ⟨0,by omega,rfl,HST⟩
 case round=>
  obtain ⟨j,hj,rfl,HX⟩:=hrel;cases gk with
  |zero=>
   obtain rfl:j=m.length:=by omega
   have HR:Hid (Sl (zh ze) (fun g=>w.heap.size≤g) wr u7 (xy p m y)∧w.grownBy wr none):=za ⟨by have:=HX.out.1.sl;rwa [List.take_length] at this,HX.out.2.1⟩;clear HX HST;go_wp2;go_ret;exact ⟨_,rfl,HR.out.1,HR.out.2⟩
  |succ n=>
   have hjn:(j:Int)< (m.length:Int):=by omega
   have hjN:j< m.length:=by omega
   obtain ⟨hacc,hg,hbp⟩:=HX.out;obtain ⟨g,o,c',u,e,_,_,hcu,hsu⟩:=(H.out.kept hg).atS hjN;injection e with e1 e2 e3
   subst e1 e3;obtain ⟨A1,c1,e1,_,_⟩:=hsu.form;subst e1;have HSN:=za (yu (fun l=>zP p l y) m j hjN);have HF:=za (YR p _ m[j] y X wr hsu HI.out (HB2.out _ (List.getElem_mem hjN)));have HSL:Hid ((zP p m[j] y).length=m[j].length):=za (by simp [zP]);have HAC:=za hacc;have HG:=za hg;have HBp:=za hbp;have hp:=hbp.prule;have HLB:Hid ((((m.take j).map fun l=>zP p l y).length+1)*24≤140737488355328):=za (by simp;omega);clear hacc hg hbp hsu e2 HX HST;generalize hy:m[j]=z at HSN HF hcu HSL;clear hy;generalize z.length=n1 at *;go_wp2_with fail;refine HF.out.mono ?_;rintro e' w1 ⟨v1,rfl,hs1,hg1⟩;obtain ⟨A2,c2,e2,_,_⟩:=hs1.form;rw [HSL.out] at e2;subst e2;have HG2:=za (HG.out.trans hg1);have HA1:=za (HAC.out.kept hg1);have HBp1:=za (HBp.out.grown hg1 (by simp));have HREP:Hid (Enc.rep (zh ze) (fun g=>w.heap.size≤g∧some g≠u7.ownBlock) w1 [.slice A2 n1 c2] (zP p z y)):=za ⟨_,rfl,hs1.fresh HG.out HAC.out⟩;clear hg1 hp hs1;go_wp2_with (at_builtin;refine zC rfl (.tmp 16) (.tmp 21) rfl (E:=zh ze) Zb HG2.out HA1.out (fun _ h=>h) HREP.out HLB.out rfl rfl ?_);intro v2 w2 hacc2 hg2 hgo;have HFIN:Hid (Acc (zh ze) w.heap.size 31 (fun g=>w.heap.size≤g) w2 v2 ((m.take (j+1)).map fun l=>zP p l y)∧w.grownBy w2 none∧Bk w2 w.heap.size 39 p.cells):=za ⟨by rw [HSN.out];simpa using hacc2,hg2,HBp1.out.grown hgo (fun e=>HA1.out.ne_bk HBp1.out (by decide) e.symm)⟩;clear hacc2 hg2 hgo;go_wp2_with fail;go_roundg n
   case measure=>omega
   case rel=>exact ⟨j+1,by omega,by go_num,HFIN⟩
theorem zV: ∀(hs:List Value),(hs.map fun v=> [v]).flatten=hs
 | []=>rfl
 |a::l=>by simpa using zV l
theorem Xt(l:List (List Int))(B:Nat)(h: ∀c∈l,c.length≤B):yB l≤B:=by
 have key: ∀(l:List (List Int)) (n:Nat),n≤B→(∀c∈l,c.length≤B)→l.foldl (fun n c=>max n c.length) n≤B:=by
  intro l;induction l with
  |nil=>intro n hn _;exact hn
  |cons c l ih=>intro n hn h;exact ih _ (Nat.max_le.2 ⟨hn,h c (by simp)⟩) (fun d hd=>h d (by simp [hd]))
 exact key l 0 (Nat.zero_le _) h
theorem Re(l:List (List Int))(j:Nat)(h:j< l.length):yB (l.take (j+1))=max (yB (l.take j)) l[j].length:=by
 unfold yB;rw [List.take_succ_eq_append_getElem h,List.foldl_append];rfl
theorem LU(p:Par)(l:List (List Int))(i j:Nat)(h:i< l.length):TY p (l.take (i+1)) j=TY p (l.take i) j++ [l[i][j]?.getD (yq p.P [])]:=yu _ l i h
theorem Io(p:Par)(c:List Int)(j:Nat)(X:Nat→Prop)(w:World)(v:Value)(h:Sl ze X w v c):U64 (c[j]?.getD (yq p.P [])):=by
 by_cases hj:j< c.length
 ·rw [List.getElem?_eq_getElem hj];obtain ⟨_,_,_,_,_,_,_,u⟩:=h.atU hj;exact u
 ·rw [List.getElem?_eq_none (by omega)];exact yO _ _
theorem OD(p:Par)(v:Value)(l:List (List Int))(X:Nat→Prop)(w:World)(h:Sl (zh ze) X w v l)(hb:l.length≤100000)(hb2: ∀c∈l,c.length≤100000):
  Calls Tryz.prog 204 #[p.v,v] w (zH (zh ze) (fun g=>w.heap.size≤g) w (yl p l)):=by
 have H:=za h;have HB2:=za hb2;obtain ⟨A,c,rfl,hc1,hc2⟩:=h.form;have HB0:Hid (Bk (w.alloc (Obj.cells p.cells 39)) w.heap.size 39 p.cells):=za (Bk.new w _ _);have HG0:Hid (w.grownBy (w.alloc (Obj.cells p.cells 39)) none):=za (gAl w _ none);have HWB:Hid (yB l≤100000):=za (Xt l _ hb2);have HW0:Hid (yB (l.take 0)=0):=za rfl;clear h hb2;go_enter Tryz.func204,Tryz.ntmps204;go_wp2_with fail;have HS0:Hid ((w.alloc (Obj.cells p.cells 39))=(w.alloc (Obj.cells p.cells 39))):=za rfl;go_loopg [5,15] l.length (fun g s5 s15 wx=> ∃j n:Nat,j+g=l.length∧s15= .int .i64 j∧s5= .int .i64 n∧Hid (n=yB (l.take j))∧Hid (wx=(w.alloc (Obj.cells p.cells 39))))
 case atStart=>exact ⟨0,0,by omega,rfl,rfl,za HW0.out.symm,HS0⟩
 case round=>
  obtain ⟨j,n,hj,rfl,rfl,HN,HX⟩:=hrel;cases gk with
  |zero=>
   obtain rfl:j=l.length:=by omega
   have HNW:Hid (n=yB l):=za (by have:=HN.out;rwa [List.take_length] at this);obtain rfl:wr=(w.alloc (Obj.cells p.cells 39)):=HX.out;have hn5:n≤100000:=by rw [HNW.out];exact HWB.out
   have hmk:=run_make_row' (P:=Tryz.prog) 43 31 (.slice none 0 0) 24 Tryz.underlying43 Xb rfl .i64 .i64 n (by omega) (by omega);have HBO:Hid (Bk ((w.alloc (Obj.cells p.cells 39)).alloc (.cells (madeCells #[.slice none 0 0] n) 31)) (w.heap.size+1) 31 (List.replicate n (.slice none 0 0)).toArray):=za (by
    have:=Bk.new (w.alloc (Obj.cells p.cells 39)) 31 (madeCells #[.slice none 0 0] n)
    rw [World.size_alloc] at this;exact this.of_eq (Array.toList_inj.1 (by rw [toList_madeCells_one])))
   have HST:Hid (Bk ((w.alloc (Obj.cells p.cells 39)).alloc (.cells (madeCells #[.slice none 0 0] n) 31)) (w.heap.size+1) 31 (List.replicate n (Value.slice none 0 0)).toArray∧
     (∀i (hi:i< (List.replicate n (Value.slice none 0 0)).length),i< 0→Sl ze (fun g=>w.heap.size+1< g) ((w.alloc (Obj.cells p.cells 39)).alloc (.cells (madeCells #[.slice none 0 0] n) 31)) (List.replicate n (Value.slice none 0 0))[i] (TY p l i))∧
     (∀i (hi:i< (List.replicate n (Value.slice none 0 0)).length),0≤i→(List.replicate n (Value.slice none 0 0))[i]= .slice none 0 0)∧w.grownBy ((w.alloc (Obj.cells p.cells 39)).alloc (.cells (madeCells #[.slice none 0 0] n) 31)) none∧
     Bk ((w.alloc (Obj.cells p.cells 39)).alloc (.cells (madeCells #[.slice none 0 0] n) 31)) w.heap.size 39 p.cells):=
    za ⟨HBO.out,fun i hi h=>absurd h (Nat.not_lt_zero _),fun i hi _=>by simp,HG0.out.trans (gAl _ _ none),HB0.out.alloc _⟩
   have HLL:Hid ((List.replicate n (Value.slice none 0 0)).length=n):=za (by simp);clear HX HS0 HBO HB0;go_wp2_with fail;go_loopg [28] n (fun g s28 wx=> ∃(j:Nat) (hs:List Value),j+g=n∧s28= .int .i64 j∧Hid (hs.length=n)∧Hid (Bk wx (w.heap.size+1) 31 hs.toArray∧
     (∀i (hi:i< hs.length),i< j→Sl ze (fun g=>w.heap.size+1< g) wx hs[i] (TY p l i))∧(∀i (hi:i< hs.length),j≤i→hs[i]= .slice none 0 0)∧w.grownBy wx none∧Bk wx w.heap.size 39 p.cells))
   case atStart=>exact ⟨0,_,by omega,rfl,HLL,HST⟩
   case round=>
    rename World=>wj
    obtain ⟨j,hs,hj,rfl,HLH,HX⟩:=hrel;cases gk with
    |zero=>
     obtain rfl:j=n:=by omega
     have HR:Hid (Sl (zh ze) (fun g=>w.heap.size≤g) wj (.slice (some ⟨w.heap.size+1,0,none⟩) j j) (yl p l)∧w.grownBy wj none):=za (by
      obtain ⟨h1,h2,_,h4,_⟩:=HX.out;have hTL:(yl p l).length=j:=by simp [yl,HNW.out]
      have:=Sl.block (E:=zh ze) (X:=fun g=>w.heap.size≤g) (xs:=yl p l) (c:=j) h1 (by omega) (hs.map fun v=> [v]) (by rw [List.length_map,HLH.out,hTL]) (fun i hi hi'=>⟨hs[i]'(by rw [HLH.out];omega),by simp,by
       have hc:=(h2 i (by rw [HLH.out];omega) (by omega)).more (Y:=fun g=>w.heap.size≤g) (fun g _ hg=>by omega);have he:(yl p l)[i]=TY p l i:=by simp [yl]
       rw [he];exact hc⟩) (by
        rw [zV]) (by rw [hTL];exact Nat.le_refl _) (by omega)
      rw [hTL] at this;exact ⟨this,h4⟩)
     clear HX HST HLH;go_wp2;go_ret;exact ⟨_,rfl,HR.out.1,HR.out.2⟩
    |succ m=>
     have hjn:(j:Int)< (n:Int):=by omega
     have hjh:j< hs.length:=by rw [HLH.out];omega
     have hlo:w.heap.size+1< wj.heap.size:=HX.out.1.lt;have HIN:Hid (Acc ze wj.heap.size 22 (fun g=>wj.heap.size≤g) wj (.slice none 0 0) (TY p (l.take 0) j)∧Bk wj (w.heap.size+1) 31 (hs.set j (.slice none 0 0)).toArray∧wj.grownBy wj (some (w.heap.size+1))∧Bk wj w.heap.size 39 p.cells):=za ⟨Acc.nil _ _ _ _ _,by
      have:=HX.out.2.2.1 j hjh (Nat.le_refl _)
      rw [←this,List.set_getElem_self];exact HX.out.1,World.grownBy.refl _ _,HX.out.2.2.2.2⟩
     have HGJ:=za HX.out.2.2.2.1;have HLO:=za hlo;clear hlo;go_wp2_with fail;go_loopg [33] l.length (fun g s33 wx=> ∃(i:Nat) (v:Value),i+g=l.length∧s33= .int .i64 i∧Hid (Acc ze wj.heap.size 22 (fun g=>wj.heap.size≤g) wx v (TY p (l.take i) j)∧Bk wx (w.heap.size+1) 31 (hs.set j v).toArray∧wj.grownBy wx (some (w.heap.size+1))∧Bk wx w.heap.size 39 p.cells))
     case atStart=>exact ⟨0,_,by omega,rfl,HIN⟩
     case round=>
      rename World=>wi
      obtain ⟨i,v,hi,rfl,HY⟩:=hrel;cases gk with
      |zero=>
       obtain rfl:i=l.length:=by omega
       have HFIN:Hid (Bk wi (w.heap.size+1) 31 (hs.set j v).toArray∧(∀i (hi:i< (hs.set j v).length),i< j+1→Sl ze (fun g=>w.heap.size+1< g) wi (hs.set j v)[i] (TY p l i))∧(∀i (hi:i< (hs.set j v).length),j+1≤i→(hs.set j v)[i]= .slice none 0 0)∧w.grownBy wi none∧Bk wi w.heap.size 39 p.cells):=za (by
        obtain ⟨h1,h2,h3,h4⟩:=HY.out;obtain ⟨_,k2,k3,k4,_⟩:=HX.out;rw [List.take_length] at h1;refine ⟨h2,fun i hi hij=> ?_,fun i hi hij=> ?_,zB k4 h3 (fun g e=>by injection e with e;subst e;omega),h4⟩
        ·rcases Nat.lt_or_ge i j with hlt|hge
         ·rw [List.getElem_set_ne (by omega)];exact ((k2 i (by simpa using hi) hlt).bounded.keep h3 (fun g hg e=>by injection e with e;have:=hg.1;omega)).more (fun g _ hg=>hg.1)
         ·obtain rfl:i=j:=by omega
          rw [List.getElem_set_self];exact h1.sl.more (fun g _ hg=>Nat.lt_of_lt_of_le HLO.out hg)
        ·rw [List.getElem_set_ne (by omega)];exact k3 i (by simpa using hi) (by omega))
       have HLH2:Hid ((hs.set j v).length=n):=za (by rw [List.length_set];exact HLH.out);clear HX HY HST HIN;go_wp2_with fail;go_roundg m
       case measure=>omega
       case rel=>exact ⟨j+1,_,by omega,by go_num,HLH2,HFIN⟩
      |succ q=>
       have hin:(i:Int)< (l.length:Int):=by omega
       have hiN:i< l.length:=by omega
       obtain ⟨hacc,hbo,hgj,hbp⟩:=HY.out;have hgw:w.grownBy wi none:=zB HGJ.out hgj (fun g e=>by injection e with e;subst e;omega);obtain ⟨g,o,c',u,e,_,_,hcu,hsu⟩:=(H.out.kept hgw).atS hiN;injection e with e1 e2 e3
       subst e1 e3;obtain ⟨A1,c1,e1,_,_⟩:=hsu.form;subst e1;have HCV:=za hsu;have HSN:=za (LU p l i j hiN);have HUX:=za (Io p l[i] j _ _ _ hsu);obtain ⟨A2,c2,e4,_,_⟩:=hacc.sl.form;have hcl:(TY p (l.take i) j).length=i:=by simp [TY];omega
       rw [hcl] at e4;subst e4;have HAC:=za hacc;have HBO:=za hbo;have HGW:=za hgw;have HGI:=za hgj;have HBp:=za hbp;have hp:=hbp.prule;have hlc1:l[i].length≤100000:=HB2.out _ (List.getElem_mem hiN);have HJH:=za hjh;have HLB:Hid (((TY p (l.take i) j).length+1)*8≤140737488355328):=za (by rw [hcl];omega);clear hacc hbo hgj hbp hgw hsu e2 hcl HY HIN HST hjh;obtain ⟨L,hL⟩: ∃L,L=l[i]:=⟨_,rfl⟩;rw [←hL] at hcu hlc1;rw [←hL] at HCV HSN HUX;clear hL;have hjL0:(0:Int)≤(j:Int):=by omega
       by_cases hjL:j< L.length
       ·have hjLi:(j:Int)< (L.length:Int):=by omega
        rw [show L[j]?.getD (yq p.P [])=L[j] by rw [List.getElem?_eq_getElem hjL];rfl] at HSN HUX;go_wp2_with fail;refine (Vr p _).mono ?_;rintro e' w1 ⟨rfl,hg1⟩;have HG1:Hid (wi.grownBy w1 none):=za hg1;have HA1:=za (HAC.out.kept hg1);have HBO1:=za (HBO.out.grown hg1 (by simp));have HBp1:=za (HBp.out.grown hg1 (by simp));have HGJ1:Hid (wj.grownBy w1 (some (w.heap.size+1))):=za (HGI.out.trans (yS hg1));have co:w1.cell? ⟨w.heap.size+1,j,none⟩=some (.slice A2 i c2):=by rw [HBO1.out.cell j];simp [HJH.out]
        have lo:=HBO1.out.lt;have cx:=(HCV.out.kept hg1);obtain ⟨gq,oq,cq,eq1,_,_,cq0,_⟩:=cx.atU hjL;injection eq1 with eq1
        subst eq1;clear hg1 hp;go_wp2_with (at_builtin;refine zQ rfl (.tmp 52) (.tmp 54) rfl (E:=ze) (X:=fun g=>wj.heap.size≤g) xd HA1.out rfl rfl ⟨rfl,HUX.out⟩ HLB.out HGJ1.out.size (fun g h=>Nat.le_trans HGJ1.out.size h) ?_);intro v2 w2 hacc2 hg2 hm2;have hne: ∀g,(Value.slice A2 i c2).ownBlock=some g→wj.heap.size≤g:=fun g e=>(HA1.out.lt g e).1
        obtain ⟨A3,c3,e5,_,_⟩:=hacc2.sl.form;have hl3:(TY p (l.take i) j++ [L[j]]).length=i+1:=by simp [TY];omega
        rw [hl3] at e5;subst e5;have HBO2:Hid (Bk w2 (w.heap.size+1) 31 (hs.set j (.slice A2 i c2)).toArray):=za (HBO1.out.grown hg2 (fun e=>by have:=hne _ e.symm;have:=HLO.out;omega));have HBp2:Hid (Bk w2 w.heap.size 39 p.cells):=za (HBp1.out.grown hg2 (fun e=>by have:=hne _ e.symm;have:=HLO.out;omega));have HGJ2:Hid (wj.grownBy w2 (some (w.heap.size+1))):=za ⟨hg2.os.trans HGJ1.out.os,hg2.tape.trans HGJ1.out.tape,hg2.output.trans HGJ1.out.output,Nat.le_trans HGJ1.out.size hg2.size,fun k hk hkn=>(hg2.block k (Nat.lt_of_lt_of_le hk HGJ1.out.size) (fun e=>by have:=hne _ e.symm;omega)).trans (HGJ1.out.block k hk hkn)⟩;have co2:w2.cell? ⟨w.heap.size+1,j,none⟩=some (.slice A2 i c2):=by rw [HBO2.out.cell j];simp [HJH.out]
        have fo2:=HBO2.out.free j;have HFIN:Hid (Acc ze wj.heap.size 22 (fun g=>wj.heap.size≤g) (w2.setCell ⟨w.heap.size+1,j,none⟩ (.slice A3 (i+1) c3)) (.slice A3 (i+1) c3) (TY p (l.take (i+1)) j)∧Bk (w2.setCell ⟨w.heap.size+1,j,none⟩ (.slice A3 (i+1) c3)) (w.heap.size+1) 31 (hs.set j (.slice A3 (i+1) c3)).toArray∧wj.grownBy (w2.setCell ⟨w.heap.size+1,j,none⟩ (.slice A3 (i+1) c3)) (some (w.heap.size+1))∧Bk (w2.setCell ⟨w.heap.size+1,j,none⟩ (.slice A3 (i+1) c3)) w.heap.size 39 p.cells):=za ⟨by
          rw [HSN.out];exact hacc2.keep (yM (World.grownBy.refl _ (some (w.heap.size+1))) j _) (fun g hg e=>by injection e with e;have:=HLO.out;omega),(HBO2.out.set j _).of_eq (by simp),yM HGJ2.out j _,HBp2.out.far (by simp) _⟩
        clear hacc2 hg2 hm2 hne co lo cx;go_wp2_with fail;go_roundg q
        case measure=>omega
        case rel=>exact ⟨i+1,_,by omega,by go_num,HFIN⟩
       ·have hjLi: ¬(j:Int)< (L.length:Int):=by omega
        rw [show L[j]?.getD (yq p.P [])=yq p.P [] by rw [List.getElem?_eq_none (by omega)];rfl] at HSN HUX;go_wp2_with fail;refine (Vr p _).mono ?_;rintro e' w1 ⟨rfl,hg1⟩;have HG1:Hid (wi.grownBy w1 none):=za hg1;have HA1:=za (HAC.out.kept hg1);have HBO1:=za (HBO.out.grown hg1 (by simp));have HBp1:=za (HBp.out.grown hg1 (by simp));have HGJ1:Hid (wj.grownBy w1 (some (w.heap.size+1))):=za (HGI.out.trans (yS hg1));have co:w1.cell? ⟨w.heap.size+1,j,none⟩=some (.slice A2 i c2):=by rw [HBO1.out.cell j];simp [HJH.out]
        have lo:=HBO1.out.lt;have cx:=(HCV.out.kept hg1);clear hg1 hp;go_wp2_with (at_builtin;refine zQ rfl (.tmp 52) (.tmp 54) rfl (E:=ze) (X:=fun g=>wj.heap.size≤g) xd HA1.out rfl rfl ⟨rfl,HUX.out⟩ HLB.out HGJ1.out.size (fun g h=>Nat.le_trans HGJ1.out.size h) ?_);intro v2 w2 hacc2 hg2 hm2;have hne: ∀g,(Value.slice A2 i c2).ownBlock=some g→wj.heap.size≤g:=fun g e=>(HA1.out.lt g e).1
        obtain ⟨A3,c3,e5,_,_⟩:=hacc2.sl.form;have hl3:(TY p (l.take i) j++ [yq p.P []]).length=i+1:=by simp [TY];omega
        rw [hl3] at e5;subst e5;have HBO2:Hid (Bk w2 (w.heap.size+1) 31 (hs.set j (.slice A2 i c2)).toArray):=za (HBO1.out.grown hg2 (fun e=>by have:=hne _ e.symm;have:=HLO.out;omega));have HBp2:Hid (Bk w2 w.heap.size 39 p.cells):=za (HBp1.out.grown hg2 (fun e=>by have:=hne _ e.symm;have:=HLO.out;omega));have HGJ2:Hid (wj.grownBy w2 (some (w.heap.size+1))):=za ⟨hg2.os.trans HGJ1.out.os,hg2.tape.trans HGJ1.out.tape,hg2.output.trans HGJ1.out.output,Nat.le_trans HGJ1.out.size hg2.size,fun k hk hkn=>(hg2.block k (Nat.lt_of_lt_of_le hk HGJ1.out.size) (fun e=>by have:=hne _ e.symm;omega)).trans (HGJ1.out.block k hk hkn)⟩;have co2:w2.cell? ⟨w.heap.size+1,j,none⟩=some (.slice A2 i c2):=by rw [HBO2.out.cell j];simp [HJH.out]
        have fo2:=HBO2.out.free j;have HFIN:Hid (Acc ze wj.heap.size 22 (fun g=>wj.heap.size≤g) (w2.setCell ⟨w.heap.size+1,j,none⟩ (.slice A3 (i+1) c3)) (.slice A3 (i+1) c3) (TY p (l.take (i+1)) j)∧Bk (w2.setCell ⟨w.heap.size+1,j,none⟩ (.slice A3 (i+1) c3)) (w.heap.size+1) 31 (hs.set j (.slice A3 (i+1) c3)).toArray∧wj.grownBy (w2.setCell ⟨w.heap.size+1,j,none⟩ (.slice A3 (i+1) c3)) (some (w.heap.size+1))∧Bk (w2.setCell ⟨w.heap.size+1,j,none⟩ (.slice A3 (i+1) c3)) w.heap.size 39 p.cells):=za ⟨by
          rw [HSN.out];exact hacc2.keep (yM (World.grownBy.refl _ (some (w.heap.size+1))) j _) (fun g hg e=>by injection e with e;have:=HLO.out;omega),(HBO2.out.set j _).of_eq (by simp),yM HGJ2.out j _,HBp2.out.far (by simp) _⟩
        clear hacc2 hg2 hm2 hne co lo cx;go_wp2_with fail;go_roundg q
        case measure=>omega
        case rel=>exact ⟨i+1,_,by omega,by go_num,HFIN⟩
  |succ m=>
   have hjn:(j:Int)< (l.length:Int):=by omega
   have hjN:j< l.length:=by omega
   have hg:w.grownBy wr none:=by rw [HX.out];exact HG0.out
   obtain ⟨g,o,c',u,e,_,_,hcu,hsu⟩:=(H.out.kept hg).atS hjN;injection e with e1 e2 e3
   subst e1 e3;obtain ⟨A1,c1,e1,_,_⟩:=hsu.form;subst e1;have HSN:Hid (yB (l.take (j+1))=max n l[j].length):=za (by rw [Re l j hjN,HN.out]);have hnb:n≤100000:=by rw [HN.out];exact Xt _ _ (fun c hc=>HB2.out c (List.mem_of_mem_take hc))
   have hlb:l[j].length≤100000:=HB2.out _ (List.getElem_mem hjN);clear hg hsu e2 HN;generalize l[j].length=n1 at *;go_wp2_with fail
   all_goals
    go_roundg m
    case measure=>omega
    case rel=>exact ⟨j+1,max n n1,by omega,by go_num,by congr 1;omega,za HSN.out.symm,HX⟩
end
section
open Go Go.RowKit Go.Shelf
attribute [local go_sem] Oper.semAt_some
theorem OR(A B:Option Addr)(m1 c1 m2 c2:Nat)(w:World):
  Calls Tryz.prog 152 #[.slice A m1 c1, .slice B m2 c2] w fun e w'=>e= .returned (.func (.func 190) #[] #[.pointer (some ⟨w.heap.size,0,none⟩), .pointer (some ⟨w.heap.size+1,0,none⟩)])∧w'=(w.alloc (.cells #[.slice A m1 c1] 31)).alloc (.cells #[.slice B m2 c2] 31):=by
 go_enter Tryz.func152,Tryz.ntmps152;go_wp2;go_ret;exact ⟨rfl,rfl⟩
theorem OS(A B:Option Addr)(m1 c1 m2 c2:Nat)(w:World):
  Calls Tryz.prog 151 #[.slice A m1 c1, .slice B m2 c2] w fun e w'=>e= .returned (.func (.func 188) #[] #[.pointer (some ⟨w.heap.size,0,none⟩), .pointer (some ⟨w.heap.size+1,0,none⟩)])∧w'=(w.alloc (.cells #[.slice A m1 c1] 43)).alloc (.cells #[.slice B m2 c2] 43):=by
 go_enter Tryz.func151,Tryz.ntmps151;go_wp2;go_ret;exact ⟨rfl,rfl⟩
theorem OT(A B:Option Addr)(m1 c1 m2 c2:Nat)(w:World):
  Calls Tryz.prog 153 #[.slice A m1 c1, .slice B m2 c2] w fun e w'=>e= .returned (.func (.func 192) #[] #[.pointer (some ⟨w.heap.size,0,none⟩), .pointer (some ⟨w.heap.size+1,0,none⟩)])∧w'=(w.alloc (.cells #[.slice A m1 c1] 104)).alloc (.cells #[.slice B m2 c2] 104):=by
 go_enter Tryz.func153,Tryz.ntmps153;go_wp2;go_ret;exact ⟨rfl,rfl⟩
theorem yV.b{n₀ Ba Bb:Nat}{w:World}(hn:n₀≤w.heap.size)(ha:Ba< w.heap.size)(hb:Bb< w.heap.size)(W:World)(l:Nat)(o o':Obj)(hl:w.heap.size≤l)(h:W.heap[l]? =some o)(h1:o.isCells=false)(h2:o.isWalk=false):yV n₀ Ba Bb W (W.putObj l o'):=by
 have hlt:=(Array.getElem?_eq_some_iff.1 h).1;have hg:=grownBy_putObj' W l o';exact ⟨belowK_b hn W l o o' hl h h1 h2,hg.block _ (by omega) (fun e=>by injection e with e;omega),hg.block _ (by omega) (fun e=>by injection e with e;omega)⟩
theorem ZV{W:World}{B:Nat}{t:TypeId}{v:Value}(h:Boxed W B t v){row:Option Nat}(hr: ∀r,row=some r→ ∃o:Obj,W.heap[r]? =some o∧o.isCells=false):some B≠row:=XG h.cell hr
theorem Acc.keeps{α:Type}{E:Enc α}{base:Nat}{e:TypeId}{X:Nat→Prop}{w w':World}{v:Value}{xs:List α}(h:Acc E base e X w v xs)(hg:w.grownBy w' v.ownBlock):KeepsOthers w w':=KeepsOthers.of_grownBy hg fun j o ej hj=>by
 obtain ⟨_,css,_,_,h3⟩:=h;rcases h3.2 with ⟨rfl,_⟩|⟨g,cap,cur,rfl,_,hgb,_⟩
 ·simp [Value.ownBlock] at ej
 ·obtain rfl:g=j:=by simpa [Value.ownBlock] using ej
  rw [hgb] at hj;cases hj;rfl
theorem xQ{w w':World}(hg:w.grownBy w' none):KeepsOthers w w':=KeepsOthers.of_grownBy hg (by simp)
section
variable {α:Type} {P:Program} {E:Enc α} {base:Nat} {e:TypeId} {X Y:Nat→Prop} {w:World} {v:Value} {xs:List α} {l0 n:Nat}
theorem YL{cs:List Value}{y:α}{t:TypeId}{bytes:Nat}{ops:Array Oper}{rest:List Oper}{o:Oper}{a:Act}{Q:Exit→Act→World→Prop}(hgd:o.guard=none)(s x:Operand)
  (ho:o.op= .call {callee:= .builtin .append,args:= #[s,x],argTypes:= #[t,t]}) (hE:zA P t e E.size bytes) (hacc:Acc E base e X w v xs) (hs:a.eval s=v) (hx:a.eval x= .slice (some ⟨w.heap.size,0,none⟩) 1 1) (hrep:E.rep (fun g=>X g∧some g≠v.ownBlock) w cs y)
  (hlen:(xs.length+1)*bytes≤140737488355328) (hb:base≤w.heap.size) (hN: ∀g,w.heap.size≤g→X g)
  (h: ∀v' w',Acc E base e X w' v' (xs++ [y])→w.grownBy w' v.ownBlock→xM w v v'→wpListIn (Fence.wide.inRound l0) n P ops Q rest (a.put o.dst v') w'):wpListIn (Fence.wide.inRound l0) n P ops Q (o::rest) a (w.alloc (.cells cs.toArray e)):=
 wpListIn_plain hgd fun K hK=>XQ (R:=fun _ _=>True) (K:=K) (K':=K) (by rw [ho];intro c hc;cases hc) (fun _ _ h=>h) (YV hE hacc hrep hlen hb hN s x ho hs hx fun v' w' h1 h2 h3=>hK _ _ (h v' w' h1 h2 h3))
end
theorem RD(n:Nat)(hn:1≤n)(Ba Bb:Nat)(va vb:Value)(a b:List (List Int))(X:Nat→Prop)(w₀ w1:World)(G:List Int→Prop)(hG0:G [])(hGa: ∀c∈a,G c)(hGb: ∀c∈b,G c)(h01:Below w₀.heap.size w₀ w1)(hBa:Boxed w1 Ba 43 va)(hBb:Boxed w1 Bb 43 vb)(hA:Sl (zh ze) X w₀ va a)(hB:Sl (zh ze) X w₀ vb b):
  SeqStopsK Fence.wide n Tryz.prog 188 #[.pointer (some ⟨Ba,0,none⟩), .pointer (some ⟨Bb,0,none⟩)] (fun x:SS ze X w₀ G=> #[x.1.1.1,x.1.2.1]) (yV w₀.heap.size Ba Bb) (fun ys=>ys.map SS.lists=Zc a b) (fun _=>True) (Zc a b).length w1:=fun l J Jx W hW hJ _ hY h0=>
 MN n hn l Ba Bb va vb a b X w₀ G hG0 hGa hGb J Jx hY W hJ (h01.trans (hW.mono h01.size)) ((hW.5 Ba hBa.lt).trans hBa) ((hW.5 Bb hBb.lt).trans hBb) hA hB h0
theorem RC(n:Nat)(hn:1≤n)(Ba Bb:Nat)(va vb:Value)(a b:List Int)(X:Nat→Prop)(w₀ w1:World)(h01:Below w₀.heap.size w₀ w1)(hBa:Boxed w1 Ba 31 va)(hBb:Boxed w1 Bb 31 vb)(hA:Sl ze X w₀ va a)(hB:Sl ze X w₀ vb b):
  SeqStopsK Fence.wide n Tryz.prog 190 #[.pointer (some ⟨Ba,0,none⟩), .pointer (some ⟨Bb,0,none⟩)] (fun x:UU=> #[.int .u64 x.1.1, .int .u64 x.1.2]) (yV w₀.heap.size Ba Bb) (fun ys=>ys.map Subtype.val=Ul a b) (fun _=>True) (Ul a b).length w1:=fun l J Jx W hW hJ _ hY h0=>
 MM n hn l Ba Bb va vb a b X J Jx w₀ hY W hJ (h01.trans (hW.mono h01.size)) ((hW.5 Ba hBa.lt).trans hBa) ((hW.5 Bb hBb.lt).trans hBb) hA hB h0
theorem RF(n:Nat)(hn:1≤n)(Ba Bb:Nat)(va vb:Value)(a b:List (List (List Int)))(X:Nat→Prop)(w₀ w1:World)(G:List (List Int)→Prop)(hG0:G [])(hGa: ∀c∈a,G c)(hGb: ∀c∈b,G c)(h01:Below w₀.heap.size w₀ w1)(hBa:Boxed w1 Ba 104 va)(hBb:Boxed w1 Bb 104 vb)(hA:Sl (zh (zh ze)) X w₀ va a)(hB:Sl (zh (zh ze)) X w₀ vb b):
  SeqStopsK Fence.wide n Tryz.prog 192 #[.pointer (some ⟨Ba,0,none⟩), .pointer (some ⟨Bb,0,none⟩)] (fun x:SS (zh ze) X w₀ G=> #[x.1.1.1,x.1.2.1]) (yV w₀.heap.size Ba Bb) (fun ys=>ys.map SS.lists=Zc a b) (fun _=>True) (Zc a b).length w1:=fun l J Jx W hW hJ _ hY h0=>
 MO n hn l Ba Bb va vb a b X w₀ G hG0 hGa hGb J Jx hY W hJ (h01.trans (hW.mono h01.size)) ((hW.5 Ba hBa.lt).trans hBa) ((hW.5 Bb hBb.lt).trans hBb) hA hB h0
end
section
open Go Go.RowKit Go.Shelf
attribute [local go_sem] Oper.semAt_some
theorem xx{P:Program}{ops:Array Oper}{R:Act→World→Prop}{Q:Exit→Act→World→Prop}{l0 n id:Nat}{a:Act}{w:World}(hm:P.follows .mixedOrders=true)(hdf:Tq ops=true)(hR: ∀a w,R a w→Q .normal a w)
  (h:wpAny P .any ops (FE R) ops.size (Array.replicate ops.size false) a w.drew):(Code.region id ops true).wpIn (Fence.wide.inRound l0) n P Q a w:=
 wpIn_region_any hm (Uo (XS hdf) hR _ _ _ _ h)
def LQ(p:Par)(x:List Int×List Int):List Int:=(Ul x.1 x.2).map (zr p)
def yv(p:Par)(f r:List (List Int)):List (List Int):=(Zc f r).map (LQ p)
abbrev UA(c:List Int):Prop:=c.length≤100000
theorem Us(p:Par){ys:List UU}{z:List (Int×Int)}(h:ys.map Subtype.val=z):ys.map (fun y=>zr p y.1)=z.map (zr p):=by
 rw [←h,List.map_map];rfl
theorem Tx(p:Par){X:Nat→Prop}{w₀:World}{G:List Int→Prop}{ys:List (SS ze X w₀ G)}{z:List (List Int×List Int)}(h:ys.map SS.lists=z):ys.map (fun y=>LQ p y.lists)=z.map (LQ p):=by
 rw [←h,List.map_map];rfl
theorem LP(n:Nat)(hn:6≤n)(p:Par)(vf vr:Value)(f r:List (List Int))(X:Nat→Prop)(w:World)(hp:p.ok)(hf:Sl (zh ze) X w vf f)(hr:Sl (zh ze) X w vr r)(hb1:f.length≤100000)(hb2:r.length≤100000)(hb3: ∀c∈f,UA c)(hb4: ∀c∈r,UA c):
  CallsIn Fence.wide n Tryz.prog 100 #[p.v,vf,vr] w (zH (zh ze) (fun g=>w.heap.size≤g) w (yv p f r)):=by
 have h1:1≤n:=by omega
 have HF:=za hf;have HR:=za hr;have HP:=za hp;obtain ⟨A1,c1,rfl,_,_⟩:=hf.form;obtain ⟨A2,c2,rfl,_,_⟩:=hr.form;clear hf hr hp;have HZL:Hid ((Zc f r).length≤100000):=za (by simp [Zc];omega);refine callsIn_of_wp_marks Tryz.func100 rfl trivial ?_ rfl;simp only [Tryz.ntmps100,List.size_toArray,List.length_cons,List.length_nil,Nat.reduceAdd,Nat.reduceSub,Array.replicate_succ,Array.replicate_zero,List.push_toArray,List.append_toArray,List.nil_append,List.cons_append]
 gi_wp2_with (refine ⟨trivial, ?_⟩;refine (callsIn_wide.2 (OS _ _ _ _ _ _ _)).mono ?_;rintro e w' ⟨rfl,rfl⟩)
 have hs1:(w.alloc (.cells p.cells 39)).heap.size=w.heap.size+1:=by simp
 have hs2:((w.alloc (.cells p.cells 39)).alloc (.cells #[.slice none 0 0] 43)).heap.size=w.heap.size+1+1:=by simp
 have hs3:(((w.alloc (.cells p.cells 39)).alloc (.cells #[.slice none 0 0] 43)).alloc (.cells #[.slice A1 f.length c1] 43)).heap.size=w.heap.size+1+1+1:=by simp
 have bP:Bk _ w.heap.size 39 p.cells:=(((Bk.new w 39 p.cells).alloc (.cells #[.slice none 0 0] 43)).alloc (.cells #[.slice A1 f.length c1] 43)).alloc (.cells #[.slice A2 r.length c2] 43);have bO:=((Boxed.new (w.alloc (.cells p.cells 39)) 43 (.slice none 0 0)).alloc (.cells #[.slice A1 f.length c1] 43)).alloc (.cells #[.slice A2 r.length c2] 43);have bA:=(Boxed.new ((w.alloc (.cells p.cells 39)).alloc (.cells #[.slice none 0 0] 43)) 43 (.slice A1 f.length c1)).alloc (.cells #[.slice A2 r.length c2] 43);have bB:=Boxed.new (((w.alloc (.cells p.cells 39)).alloc (.cells #[.slice none 0 0] 43)).alloc (.cells #[.slice A1 f.length c1] 43)) 43 (.slice A2 r.length c2);rw [hs1] at bO;rw [hs2] at bA;rw [hs3] at bB;have hB0:Below w.heap.size w ((((w.alloc (.cells p.cells 39)).alloc (.cells #[.slice none 0 0] 43)).alloc (.cells #[.slice A1 f.length c1] 43)).alloc (.cells #[.slice A2 r.length c2] 43)):=zy (((gAl w _ none).trans (gAl _ _ none)).trans ((gAl _ _ none).trans (gAl _ _ none)));have hsz:((((w.alloc (.cells p.cells 39)).alloc (.cells #[.slice none 0 0] 43)).alloc (.cells #[.slice A1 f.length c1] 43)).alloc (.cells #[.slice A2 r.length c2] 43)).heap.size=w.heap.size+4:=by simp
 obtain ⟨W0,hW0⟩: ∃W0,(((w.alloc (.cells p.cells 39)).alloc (.cells #[.slice none 0 0] 43)).alloc (.cells #[.slice A1 f.length c1] 43)).alloc (.cells #[.slice A2 r.length c2] 43)=W0:=⟨_,rfl⟩;rw [hW0] at bP bO bA bB hB0 hsz ⊢;clear hW0 hs1 hs2 hs3;have HPG:Hid (∀c∈f,UA c):=za hb3;refine wpIn_rangeFunc_ownH rfl h1 (gf:=188) (lb:= #[.pointer (some ⟨w.heap.size+1+1,0,none⟩), .pointer (some ⟨w.heap.size+1+1+1,0,none⟩)]) rfl trivial (enters_of Tryz.func188 (by kernel_rfl) rfl)
  (RD (n - 1) (by omega) (w.heap.size+1+1) (w.heap.size+1+1+1) _ _ f r X w W0 UA (by simp) hb3 hb4 hB0 bA bB HF.out HR.out) yV.trans (yV.b (by omega) (by omega) (by omega)) (Below.refl _ _) (fun _=>rfl)
  (fun pre W=>(∃v,Boxed W (w.heap.size+1) 43 v∧Acc (zh ze) (w.heap.size+4) 31 (fun g=>w.heap.size+4≤g) W v (pre.map fun x=>LQ p x.lists))∧Bk W w.heap.size 39 p.cells∧Below w.heap.size w W∧Boxed W (w.heap.size+1+1) 43 (.slice A1 f.length c1)∧Boxed W (w.heap.size+1+1+1) 43 (.slice A2 r.length c2))
  (fun _ _ _=>False)
  (fun pre X Y row hs hg hrow=>by
   obtain ⟨⟨v,hb,ha⟩,hk,hB,hb2,hb3⟩:=hs;have hr':=fun r e=>(hrow r e).2
   exact ⟨⟨v,hb.kept hg (ZV hb hr'),ha.keepc hg hr'⟩,hk.grown hg (XG (hk.cell 0) hr'),hB.grown hg hB.size (fun k e=>by have:=(hrow k e).1;omega),hb2.kept hg (ZV hb2 hr'),hb3.kept hg (ZV hb3 hr')⟩)
  (fun _ _ _ _ _ hs _ _=>hs)
  ⟨⟨_,bO,Acc.nil _ _ _ _ _⟩,bP,hB0,bA,bB⟩
  (fun x a' _=>a'={tmps:= #[p.v, .slice A1 f.length c1, .slice A2 r.length c2, .pointer (some ⟨w.heap.size,0,none⟩),undef,undef, .slice none 0 0, .pointer (some ⟨w.heap.size+1,0,none⟩),x.1.1.1,x.1.2.1,undef,undef,undef, .slice A1 f.length c1, .slice A2 r.length c2, .func (.func 188) #[] #[.pointer (some ⟨w.heap.size+1+1,0,none⟩), .pointer (some ⟨w.heap.size+1+1+1,0,none⟩)],x.1.1.1,x.1.2.1,undef,undef,undef,undef,undef,undef,undef,undef,undef,undef,undef,undef,undef,undef,undef,undef,undef,undef],defers:= []})
  (fun _ _ _ _ _ _ hs _ _=>hs)
  ?assign ?body ?done ?stop
 case assign=>
  rintro l pre x W K hi hK
  gi_wp2
  exact hK _ _ (KeepsFrom.refl _ _) (yV.refl _ _ _ _) hi rfl
 case body=>
  rintro l pre ⟨⟨⟨v1,l1⟩,⟨v2,l2⟩⟩,⟨hv1,hg1⟩,⟨hv2,hg2⟩⟩ a' W hl ⟨r0,hr0⟩ ⟨⟨v,hbo,hao⟩,hbp,hbl,hba,hbb⟩ rfl hlt;have k1:Sl ze X w v1 l1:=hv1;have k2:Sl ze X w v2 l2:=hv2;have k3:l1.length≤100000:=hg1;have k4:l2.length≤100000:=hg2;have HV1:=za k1;have HV2:=za k2;obtain ⟨D1,d1,rfl,_,_⟩:=k1.form;obtain ⟨D2,d2,rfl,_,_⟩:=k2.form;have HSM:Hid ((Ul l1 l2).length≤100000):=za (by simp [Ul];omega);have HPL:Hid (pre.length< 100000):=za (Nat.lt_of_lt_of_le hlt HZL.out);clear k1 k2 k3 k4 hlt;dsimp only
  gi_wp2_with (refine ⟨trivial,fun _=>by omega, ?_⟩;refine (CallsIn.inRound l (callsIn_wide.2 (OR _ _ _ _ _ _ _))).mono ?_;rintro e w' ⟨rfl,rfl⟩)
  have hs1:(W.alloc (.cells #[.slice none 0 0] 31)).heap.size=W.heap.size+1:=by simp
  have hs2:((W.alloc (.cells #[.slice none 0 0] 31)).alloc (.cells #[.slice D1 l1.length d1] 31)).heap.size=W.heap.size+1+1:=by simp
  have bL:=((Boxed.new W 31 (.slice none 0 0)).alloc (.cells #[.slice D1 l1.length d1] 31)).alloc (.cells #[.slice D2 l2.length d2] 31);have bC:=(Boxed.new (W.alloc (.cells #[.slice none 0 0] 31)) 31 (.slice D1 l1.length d1)).alloc (.cells #[.slice D2 l2.length d2] 31);have bD:=Boxed.new ((W.alloc (.cells #[.slice none 0 0] 31)).alloc (.cells #[.slice D1 l1.length d1] 31)) 31 (.slice D2 l2.length d2);rw [hs1] at bC;rw [hs2] at bD;have hg2:W.grownBy (((W.alloc (.cells #[.slice none 0 0] 31)).alloc (.cells #[.slice D1 l1.length d1] 31)).alloc (.cells #[.slice D2 l2.length d2] 31)) none:=((gAl W _ none).trans (gAl _ _ none)).trans (gAl _ _ none);have hsz2:(((W.alloc (.cells #[.slice none 0 0] 31)).alloc (.cells #[.slice D1 l1.length d1] 31)).alloc (.cells #[.slice D2 l2.length d2] 31)).heap.size=W.heap.size+3:=by simp
  obtain ⟨W2,hW2⟩: ∃W2,((W.alloc (.cells #[.slice none 0 0] 31)).alloc (.cells #[.slice D1 l1.length d1] 31)).alloc (.cells #[.slice D2 l2.length d2] 31)=W2:=⟨_,rfl⟩;rw [hW2] at bL bC bD hg2 hsz2 ⊢;clear hW2 hs1 hs2;have hNW:=hbl.size;have hbW2:Below w.heap.size w W2:=hbl.trans ((zy hg2).mono hNW);have hr':W2.heap[l]? =some (.loop r0):=(hg2.block l (Array.getElem?_eq_some_iff.1 hr0).1 (by simp)).trans hr0;have hkf2:KeepsFrom W0.heap.size W W2:=(xQ hg2).from _;refine wpIn_rangeFunc_ownN (l₀:=l) (r₀:=r0) rfl hr' (by omega) (gf:=190) (lb:= #[.pointer (some ⟨W.heap.size+1,0,none⟩), .pointer (some ⟨W.heap.size+1+1,0,none⟩)]) rfl trivial (enters_of Tryz.func190 (by kernel_rfl) rfl)
   ((RC (n - 1 - 1 - 1) (by omega) (W.heap.size+1) (W.heap.size+1+1) _ _ l1 l2 X w W2 hbW2 bC bD HV1.out HV2.out).inRound l) yV.trans (yV.b (by omega) (by omega) (by omega)) (Below.refl _ _) (fun _=>rfl)
   (fun pre' W'=>(∃u,Boxed W' W.heap.size 31 u∧Acc ze (W.heap.size+3) 22 (fun g=>W.heap.size+3≤g) W' u (pre'.map fun y=>zr p y.1))∧Below W.heap.size W W'∧KeepsFrom W0.heap.size W W'∧Boxed W' (W.heap.size+1) 31 (.slice D1 l1.length d1)∧Boxed W' (W.heap.size+1+1) 31 (.slice D2 l2.length d2))
   (fun _ _ _=>False)
   (fun pre' X' Y row hs hg hrow=>by
    obtain ⟨⟨u,hb,ha⟩,hB,hK,hb2,hb3⟩:=hs;have hr':=fun r e=>(hrow r e).2
    exact ⟨⟨u,hb.kept hg (ZV hb hr'),ha.keepc hg hr'⟩,hB.grown hg hB.size (fun k e=>by have:=(hrow k e).1;omega),ownFrom_keepsFrom (B':=W2.heap.size) hg2.size () X' Y row hK hg hrow,hb2.kept hg (ZV hb2 hr'),hb3.kept hg (ZV hb3 hr')⟩)
   (fun _ _ _ _ _ hs _ _=>hs)
   ⟨⟨_,bL,Acc.nil _ _ _ _ _⟩,zy hg2,hkf2,bC,bD⟩
   (fun y a'' _=>a''={tmps:= #[p.v, .slice A1 f.length c1, .slice A2 r.length c2, .pointer (some ⟨w.heap.size,0,none⟩),undef,undef, .slice none 0 0, .pointer (some ⟨w.heap.size+1,0,none⟩), .slice D1 l1.length d1, .slice D2 l2.length d2, .pointer (some ⟨W.heap.size,0,none⟩), .int .u64 y.1.1, .int .u64 y.1.2, .slice A1 f.length c1, .slice A2 r.length c2, .func (.func 188) #[] #[.pointer (some ⟨w.heap.size+1+1,0,none⟩), .pointer (some ⟨w.heap.size+1+1+1,0,none⟩)], .slice D1 l1.length d1, .slice D2 l2.length d2, .slice D1 l1.length d1, .slice D2 l2.length d2, .func (.func 190) #[] #[.pointer (some ⟨W.heap.size+1,0,none⟩), .pointer (some ⟨W.heap.size+1+1,0,none⟩)], .int .u64 y.1.1, .int .u64 y.1.2,undef,undef,undef,undef,undef,undef,undef,undef,undef,undef,undef,undef,undef],defers:= []})
   (fun _ _ _ _ _ _ hs _ _=>hs)
   ?assign2 ?body2 ?done2 ?stop2
  case assign2=>
   rintro lq pre' y W' K hi hK
   gi_wp2
   exact hK _ _ (KeepsFrom.refl _ _) (yV.refl _ _ _ _) hi rfl
  case body2=>
   rintro lq pre' ⟨⟨y1,y2⟩,hu1,hu2⟩ a'' W' hl2 _ ⟨⟨u,hbu,hau⟩,hBW,hKF,hbc,hbd⟩ rfl hlt2;have HY1:Hid (U64 y1):=za hu1;have HY2:Hid (U64 y2):=za hu2;obtain ⟨A3,c3,e3,_,_⟩:=hau.sl.form;rw [List.length_map] at e3;subst e3;have HAC:=za hau;have HBL:=za hbu;have HBC:=za hbc;have HBD:=za hbd;have HBW:=za hBW;have HKF:=za hKF;have hltM:W.heap.size< W'.heap.size:=hbu.lt;have hltN:w.heap.size< W'.heap.size:=by omega
   have HS0:Hid (W.heap.size+3≤W'.heap.size):=za (by have:=hbd.lt;omega);have hpr:=(hbp.grown (zl hBW) (by simp)).prule;have cU:=hbu.cell;have HCU:Hid (U64 (zr p (y1,y2))):=za (yO _ _);have HLB:Hid (((pre'.map fun y:UU=>zr p y.1).length+1)*8≤140737488355328):=za (by rw [List.length_map];have:=HSM.out;omega);clear hau hbc hbd hBW hKF hbu hlt2;have FIN: ∀(w3 w4:World) (A4:Option Addr) (n4 c4:Nat),W'.grownBy w3 none→w3.grownBy w4 (Value.slice A3 pre'.length c3).ownBlock→Acc ze (W.heap.size+3) 22 (fun g=>W.heap.size+3≤g) w3 (.slice A3 pre'.length c3) (pre'.map fun y:UU=>zr p y.1)→Acc ze (W.heap.size+3) 22 (fun g=>W.heap.size+3≤g) w4 (.slice A4 n4 c4) ((pre'.map fun y:UU=>zr p y.1)++ [zr p (y1,y2)])→Boxed w4 W.heap.size 31 (.slice A3 pre'.length c3)→(fun w5:World=>KeepsFrom W2.heap.size W' w5∧yV w.heap.size (W.heap.size+1) (W.heap.size+1+1) W' w5∧(∃u,Boxed w5 W.heap.size 31 u∧Acc ze (W.heap.size+3) 22 (fun g=>W.heap.size+3≤g) w5 u ((pre'++ [(⟨(y1,y2),hu1,hu2⟩:UU)]).map fun y=>zr p y.1))∧Below W.heap.size W w5∧KeepsFrom W0.heap.size W w5∧Boxed w5 (W.heap.size+1) 31 (.slice D1 l1.length d1)∧Boxed w5 (W.heap.size+1+1) 31 (.slice D2 l2.length d2)) (w4.setCell ⟨W.heap.size,0,none⟩ (.slice A4 n4 c4)):=by
    intro w3 w4 A4 n4 c4 hG3 hG4 hA3 hA4 hB4;have hN2: ∀k,k< W.heap.size+3→some k≠(Value.slice A3 pre'.length c3).ownBlock:=fun k hk e=>by have:=(hA3.lt k e.symm).1;omega
    have hN3: ∀k,(Value.slice A3 pre'.length c3).ownBlock=some k→W.heap.size+3≤k:=fun k e=>(hA3.lt k e).1
    have hK5:KeepsOthers W' (w4.setCell ⟨W.heap.size,0,none⟩ (.slice A4 n4 c4)):=((xQ hG3).trans (hA3.keeps hG4)).trans (KeepsOthers.setCell _ _ _);have b1:=((HBC.out.kept hG3 (by simp)).kept hG4 (hN2 _ (by omega))).other (B':=W.heap.size) (by omega) (.slice A4 n4 c4);have b2:=((HBD.out.kept hG3 (by simp)).kept hG4 (hN2 _ (by omega))).other (B':=W.heap.size) (by omega) (.slice A4 n4 c4);have hS3:W'.heap.size≤w3.heap.size:=hG3.size;refine ⟨hK5.from _,⟨(((Below.refl _ W').grown hG3 (by omega) (by simp)).grown hG4 (by omega) (fun k e=>by have:=hN3 k e;omega)).setCell (p:=⟨W.heap.size,0,none⟩) hNW _,Eq.trans b1 (Eq.symm HBC.out),Eq.trans b2 (Eq.symm HBD.out)⟩,⟨_,hB4.set _, ?_⟩,((HBW.out.grown hG3 (by omega) (by simp)).grown hG4 (by omega) (fun k e=>by have:=hN3 k e;omega)).setCell (p:=⟨W.heap.size,0,none⟩) (Nat.le_refl _) _,HKF.out.trans (hK5.from _),b1,b2⟩;rw [List.map_append];exact hA4.keep (grownBy_setCell' w4 W.heap.size _) (fun g hg e=>by injection e with e;omega)
   dsimp only
   gi_wp2
   refine xx (l0:=lq) (R:=fun _ w5=>KeepsFrom W2.heap.size W' w5∧yV w.heap.size (W.heap.size+1) (W.heap.size+1+1) W' w5∧(∃u,Boxed w5 W.heap.size 31 u∧Acc ze (W.heap.size+3) 22 (fun g=>W.heap.size+3≤g) w5 u ((pre'++ [(⟨(y1,y2),hu1,hu2⟩:UU)]).map fun y=>zr p y.1))∧Below W.heap.size W w5∧KeepsFrom W0.heap.size W w5∧Boxed w5 (W.heap.size+1) 31 (.slice D1 l1.length d1)∧Boxed w5 (W.heap.size+1+1) 31 (.slice D2 l2.length d2)) (by kernel_rfl) (by kernel_rfl) (fun a w h=>h) ?_;refine wpAny_take (i:=2) (oi:=({dst:=some 25,op:=Op.move (Operand.tmp 11),type:=22,pos:= "pedersen.go:41",after:= #[],guard:=none}:Oper)) (v:= ?vq1) rfl (by kernel_rfl) (by kernel_rfl) (by kernel_rfl) (fun _ _ _ h=>h) (Or.inl ⟨by rfl, ?hq1⟩) ?rq1
   case hq1=>(intro w;go_simp;first|done|with_reducible rfl)
   try simp only [Act.put,sAa,sAb,sAc]
   refine wpAny_take (i:=3) (oi:=({dst:=some 26,op:=Op.move (Operand.tmp 12),type:=22,pos:= "pedersen.go:41",after:= #[],guard:=none}:Oper)) (v:= ?vq2) rfl (by kernel_rfl) (by kernel_rfl) (by kernel_rfl) (fun _ _ _ h=>h) (Or.inl ⟨by rfl, ?hq2⟩) ?rq2
   case hq2=>(intro w;go_simp;first|done|with_reducible rfl)
   try simp only [Act.put,sAa,sAb,sAc]
   refine wpAny_take (i:=4) (oi:=({dst:=some 27,op:=Op.build 153 #[(0,Operand.tmp 25),(1,Operand.tmp 26)],type:=153,pos:= "pedersen.go:41",after:= #[{on:=2,ground:=Ground.data},{on:=3,ground:=Ground.data}],guard:=none}:Oper)) (v:= ?vq3) rfl (by kernel_rfl) (by kernel_rfl) (by kernel_rfl) (fun _ _ _ h=>h) (Or.inl ⟨by rfl, ?hq3⟩) ?rq3
   case hq3=>(intro w;go_simp;first|done|with_reducible rfl)
   try simp only [Act.put,sAa,sAb,sAc]
   refine wpAny_ready (rs:= [0,1]) (by kernel_rfl) (by simp) ?_;refine AllReady.cons (o:=({dst:=some 23,op:=Op.load 31 (Operand.tmp 10),type:=31,pos:= "pedersen.go:41",after:= #[],guard:=none}:Oper)) rfl (fun K hK=> ?_) ?_
   ·skip
    go_simp;refine hK _ _ ?_;clear hK K
    try simp only [Act.put,sAa,sAb,sAc]
    refine wpAny_ready (rs:= [1]) (by kernel_rfl) (by simp) ?_;refine AllReady.cons (o:=({dst:=some 24,op:=Op.load 39 (Operand.tmp 3),type:=39,pos:= "pedersen.go:41",after:= #[],guard:=none}:Oper)) rfl (fun K hK=> ?_) AllReady.nil;go_simp;refine hK _ _ ?_;clear hK K
    try simp only [Act.put,sAa,sAb,sAc]
    refine wpAny_ready (rs:= [5]) (by kernel_rfl) (by simp) ?_;refine AllReady.cons (o:=({dst:=some 28,op:=Op.call {callee:=Callee.value (Operand.func 95),args:= #[Operand.tmp 24,Operand.tmp 27],argTypes:= #[39,153]},type:=22,pos:= "pedersen.go:41",after:= #[{on:=1,ground:=Ground.data},{on:=4,ground:=Ground.data}],guard:=none}:Oper)) rfl (fun K hK=> ?_) AllReady.nil;go_simp
    (go_at_call 95;(with_reducible refine (Zz p (y1,y2) _ HP.out HY1.out HY2.out).mono ?_);rintro e w3 ⟨rfl,hg3⟩)
    have HG3:Hid (W'.grownBy w3 none):=za ((zb W' 1).trans hg3);have HA3:=za (HAC.out.kept HG3.out);have HB3:=za (HBL.out.kept HG3.out (by simp));have HSZ:Hid (W.heap.size+3≤w3.heap.size):=za (Nat.le_trans HS0.out HG3.out.size);have HNX:Hid (∀g,w3.heap.size≤g→W.heap.size+3≤g):=za (fun g hg=>Nat.le_trans HSZ.out hg);have HNE:Hid (some W.heap.size≠(Value.slice A3 pre'.length c3).ownBlock):=za (fun e=>by have:=(HA3.out.lt _ e.symm).1;omega);have hc3:=HB3.out.cell;have hc3a:=(HB3.out.alloc (.cells #[.int .u64 (zr p (y1,y2))] 22)).cell;clear hg3;dsimp only;refine hK _ _ ?_;clear hK K
    try simp only [Act.put,sAa,sAb,sAc]
    refine wpAny_ready (rs:= [6]) (by kernel_rfl) (by simp) ?_;refine AllReady.cons (o:=({dst:=some 29,op:=Op.buildSlice 31 1 #[(0,Operand.tmp 28)],type:=31,pos:= "pedersen.go:41",after:= #[{on:=5,ground:=Ground.data}],guard:=none}:Oper)) rfl (fun K hK=> ?_) AllReady.nil;go_simp;refine hK _ _ ?_;clear hK K
    try simp only [Act.put,sAa,sAb,sAc]
    refine wpAny_ready (rs:= [7]) (by kernel_rfl) (by simp) ?_;refine AllReady.cons (o:=({dst:=some 30,op:=Op.call {callee:=Callee.builtin Builtin.append,args:= #[Operand.tmp 23,Operand.tmp 29],argTypes:= #[31,31]},type:=31,pos:= "pedersen.go:41",after:= #[{on:=0,ground:=Ground.data},{on:=6,ground:=Ground.data},{on:=5,ground:=Ground.chain}],guard:=none}:Oper)) rfl (fun K hK=> ?_) AllReady.nil;refine yZ rfl (.tmp 23) (.tmp 29) rfl (E:=ze) (y:=zr p (y1,y2)) xd HA3.out rfl rfl ⟨rfl,HCU.out⟩ HLB.out HSZ.out HNX.out ?_;intro v4 w4 hacc4 hg4 _;obtain ⟨A4,c4,e4,_,_⟩:=hacc4.sl.form;generalize (List.map (fun y:UU=>zr p y.1) pre'++ [zr p (y1,y2)]).length=n4 at e4;subst e4;have HA4:=za hacc4;have HG4:=za hg4;have hB4:=HB3.out.kept HG4.out HNE.out;have cB4:=hB4.cell;have fB4:=hB4.frozen;have HB4:=za hB4;clear hacc4 hg4 hB4;refine hK _ _ ?_;clear hK K
    try simp only [Act.put,sAa,sAb,sAc]
    refine wpAny_ready (rs:= [8]) (by kernel_rfl) (by simp) ?_;refine AllReady.cons (o:=({dst:=none,op:=Op.store 31 (Operand.tmp 10) (Operand.tmp 30),type:=0,pos:= "pedersen.go:41",after:= #[{on:=7,ground:=Ground.data},{on:=7,ground:=Ground.chain},{on:=0,ground:=Ground.phase},{on:=1,ground:=Ground.phase},{on:=2,ground:=Ground.phase},{on:=3,ground:=Ground.phase},{on:=4,ground:=Ground.phase},{on:=5,ground:=Ground.phase},{on:=6,ground:=Ground.phase},{on:=7,ground:=Ground.phase}],guard:=none}:Oper)) rfl (fun K hK=> ?_) AllReady.nil;go_simp;refine hK _ _ ?_;clear hK K
    try simp only [Act.put,sAa,sAb,sAc]
    refine wpAny_done (by kernel_rfl) ?_ _;exact ⟨rfl,FIN w3 w4 A4 n4 c4 HG3.out HG4.out HA3.out HA4.out HB4.out⟩
   refine AllReady.cons (o:=({dst:=some 24,op:=Op.load 39 (Operand.tmp 3),type:=39,pos:= "pedersen.go:41",after:= #[],guard:=none}:Oper)) rfl (fun K hK=> ?_) AllReady.nil;go_simp;refine hK _ _ ?_;clear hK K
   try simp only [Act.put,sAa,sAb,sAc]
   refine wpAny_ready (rs:= [0,5]) (by kernel_rfl) (by simp) ?_;refine AllReady.cons (o:=({dst:=some 23,op:=Op.load 31 (Operand.tmp 10),type:=31,pos:= "pedersen.go:41",after:= #[],guard:=none}:Oper)) rfl (fun K hK=> ?_) ?_
   ·skip
    go_simp;refine hK _ _ ?_;clear hK K
    try simp only [Act.put,sAa,sAb,sAc]
    refine wpAny_ready (rs:= [5]) (by kernel_rfl) (by simp) ?_;refine AllReady.cons (o:=({dst:=some 28,op:=Op.call {callee:=Callee.value (Operand.func 95),args:= #[Operand.tmp 24,Operand.tmp 27],argTypes:= #[39,153]},type:=22,pos:= "pedersen.go:41",after:= #[{on:=1,ground:=Ground.data},{on:=4,ground:=Ground.data}],guard:=none}:Oper)) rfl (fun K hK=> ?_) AllReady.nil;go_simp
    (go_at_call 95;(with_reducible refine (Zz p (y1,y2) _ HP.out HY1.out HY2.out).mono ?_);rintro e w3 ⟨rfl,hg3⟩)
    have HG3:Hid (W'.grownBy w3 none):=za ((zb W' 1).trans hg3);have HA3:=za (HAC.out.kept HG3.out);have HB3:=za (HBL.out.kept HG3.out (by simp));have HSZ:Hid (W.heap.size+3≤w3.heap.size):=za (Nat.le_trans HS0.out HG3.out.size);have HNX:Hid (∀g,w3.heap.size≤g→W.heap.size+3≤g):=za (fun g hg=>Nat.le_trans HSZ.out hg);have HNE:Hid (some W.heap.size≠(Value.slice A3 pre'.length c3).ownBlock):=za (fun e=>by have:=(HA3.out.lt _ e.symm).1;omega);have hc3:=HB3.out.cell;have hc3a:=(HB3.out.alloc (.cells #[.int .u64 (zr p (y1,y2))] 22)).cell;clear hg3;dsimp only;refine hK _ _ ?_;clear hK K
    try simp only [Act.put,sAa,sAb,sAc]
    refine wpAny_ready (rs:= [6]) (by kernel_rfl) (by simp) ?_;refine AllReady.cons (o:=({dst:=some 29,op:=Op.buildSlice 31 1 #[(0,Operand.tmp 28)],type:=31,pos:= "pedersen.go:41",after:= #[{on:=5,ground:=Ground.data}],guard:=none}:Oper)) rfl (fun K hK=> ?_) AllReady.nil;go_simp;refine hK _ _ ?_;clear hK K
    try simp only [Act.put,sAa,sAb,sAc]
    refine wpAny_ready (rs:= [7]) (by kernel_rfl) (by simp) ?_;refine AllReady.cons (o:=({dst:=some 30,op:=Op.call {callee:=Callee.builtin Builtin.append,args:= #[Operand.tmp 23,Operand.tmp 29],argTypes:= #[31,31]},type:=31,pos:= "pedersen.go:41",after:= #[{on:=0,ground:=Ground.data},{on:=6,ground:=Ground.data},{on:=5,ground:=Ground.chain}],guard:=none}:Oper)) rfl (fun K hK=> ?_) AllReady.nil;refine yZ rfl (.tmp 23) (.tmp 29) rfl (E:=ze) (y:=zr p (y1,y2)) xd HA3.out rfl rfl ⟨rfl,HCU.out⟩ HLB.out HSZ.out HNX.out ?_;intro v4 w4 hacc4 hg4 _;obtain ⟨A4,c4,e4,_,_⟩:=hacc4.sl.form;generalize (List.map (fun y:UU=>zr p y.1) pre'++ [zr p (y1,y2)]).length=n4 at e4;subst e4;have HA4:=za hacc4;have HG4:=za hg4;have hB4:=HB3.out.kept HG4.out HNE.out;have cB4:=hB4.cell;have fB4:=hB4.frozen;have HB4:=za hB4;clear hacc4 hg4 hB4;refine hK _ _ ?_;clear hK K
    try simp only [Act.put,sAa,sAb,sAc]
    refine wpAny_ready (rs:= [8]) (by kernel_rfl) (by simp) ?_;refine AllReady.cons (o:=({dst:=none,op:=Op.store 31 (Operand.tmp 10) (Operand.tmp 30),type:=0,pos:= "pedersen.go:41",after:= #[{on:=7,ground:=Ground.data},{on:=7,ground:=Ground.chain},{on:=0,ground:=Ground.phase},{on:=1,ground:=Ground.phase},{on:=2,ground:=Ground.phase},{on:=3,ground:=Ground.phase},{on:=4,ground:=Ground.phase},{on:=5,ground:=Ground.phase},{on:=6,ground:=Ground.phase},{on:=7,ground:=Ground.phase}],guard:=none}:Oper)) rfl (fun K hK=> ?_) AllReady.nil;go_simp;refine hK _ _ ?_;clear hK K
    try simp only [Act.put,sAa,sAb,sAc]
    refine wpAny_done (by kernel_rfl) ?_ _;exact ⟨rfl,FIN w3 w4 A4 n4 c4 HG3.out HG4.out HA3.out HA4.out HB4.out⟩
   refine AllReady.cons (o:=({dst:=some 28,op:=Op.call {callee:=Callee.value (Operand.func 95),args:= #[Operand.tmp 24,Operand.tmp 27],argTypes:= #[39,153]},type:=22,pos:= "pedersen.go:41",after:= #[{on:=1,ground:=Ground.data},{on:=4,ground:=Ground.data}],guard:=none}:Oper)) rfl (fun K hK=> ?_) AllReady.nil;go_simp
   (go_at_call 95;(with_reducible refine (Zz p (y1,y2) _ HP.out HY1.out HY2.out).mono ?_);rintro e w3 ⟨rfl,hg3⟩)
   have HG3:Hid (W'.grownBy w3 none):=za ((zb W' 1).trans hg3);have HA3:=za (HAC.out.kept HG3.out);have HB3:=za (HBL.out.kept HG3.out (by simp));have HSZ:Hid (W.heap.size+3≤w3.heap.size):=za (Nat.le_trans HS0.out HG3.out.size);have HNX:Hid (∀g,w3.heap.size≤g→W.heap.size+3≤g):=za (fun g hg=>Nat.le_trans HSZ.out hg);have HNE:Hid (some W.heap.size≠(Value.slice A3 pre'.length c3).ownBlock):=za (fun e=>by have:=(HA3.out.lt _ e.symm).1;omega);have hc3:=HB3.out.cell;have hc3a:=(HB3.out.alloc (.cells #[.int .u64 (zr p (y1,y2))] 22)).cell;clear hg3;dsimp only;refine hK _ _ ?_;clear hK K
   try simp only [Act.put,sAa,sAb,sAc]
   refine wpAny_ready (rs:= [0,6]) (by kernel_rfl) (by simp) ?_;refine AllReady.cons (o:=({dst:=some 23,op:=Op.load 31 (Operand.tmp 10),type:=31,pos:= "pedersen.go:41",after:= #[],guard:=none}:Oper)) rfl (fun K hK=> ?_) ?_
   ·skip
    go_simp;refine hK _ _ ?_;clear hK K
    try simp only [Act.put,sAa,sAb,sAc]
    refine wpAny_ready (rs:= [6]) (by kernel_rfl) (by simp) ?_;refine AllReady.cons (o:=({dst:=some 29,op:=Op.buildSlice 31 1 #[(0,Operand.tmp 28)],type:=31,pos:= "pedersen.go:41",after:= #[{on:=5,ground:=Ground.data}],guard:=none}:Oper)) rfl (fun K hK=> ?_) AllReady.nil;go_simp;refine hK _ _ ?_;clear hK K
    try simp only [Act.put,sAa,sAb,sAc]
    refine wpAny_ready (rs:= [7]) (by kernel_rfl) (by simp) ?_;refine AllReady.cons (o:=({dst:=some 30,op:=Op.call {callee:=Callee.builtin Builtin.append,args:= #[Operand.tmp 23,Operand.tmp 29],argTypes:= #[31,31]},type:=31,pos:= "pedersen.go:41",after:= #[{on:=0,ground:=Ground.data},{on:=6,ground:=Ground.data},{on:=5,ground:=Ground.chain}],guard:=none}:Oper)) rfl (fun K hK=> ?_) AllReady.nil;refine yZ rfl (.tmp 23) (.tmp 29) rfl (E:=ze) (y:=zr p (y1,y2)) xd HA3.out rfl rfl ⟨rfl,HCU.out⟩ HLB.out HSZ.out HNX.out ?_;intro v4 w4 hacc4 hg4 _;obtain ⟨A4,c4,e4,_,_⟩:=hacc4.sl.form;generalize (List.map (fun y:UU=>zr p y.1) pre'++ [zr p (y1,y2)]).length=n4 at e4;subst e4;have HA4:=za hacc4;have HG4:=za hg4;have hB4:=HB3.out.kept HG4.out HNE.out;have cB4:=hB4.cell;have fB4:=hB4.frozen;have HB4:=za hB4;clear hacc4 hg4 hB4;refine hK _ _ ?_;clear hK K
    try simp only [Act.put,sAa,sAb,sAc]
    refine wpAny_ready (rs:= [8]) (by kernel_rfl) (by simp) ?_;refine AllReady.cons (o:=({dst:=none,op:=Op.store 31 (Operand.tmp 10) (Operand.tmp 30),type:=0,pos:= "pedersen.go:41",after:= #[{on:=7,ground:=Ground.data},{on:=7,ground:=Ground.chain},{on:=0,ground:=Ground.phase},{on:=1,ground:=Ground.phase},{on:=2,ground:=Ground.phase},{on:=3,ground:=Ground.phase},{on:=4,ground:=Ground.phase},{on:=5,ground:=Ground.phase},{on:=6,ground:=Ground.phase},{on:=7,ground:=Ground.phase}],guard:=none}:Oper)) rfl (fun K hK=> ?_) AllReady.nil;go_simp;refine hK _ _ ?_;clear hK K
    try simp only [Act.put,sAa,sAb,sAc]
    refine wpAny_done (by kernel_rfl) ?_ _;exact ⟨rfl,FIN w3 w4 A4 n4 c4 HG3.out HG4.out HA3.out HA4.out HB4.out⟩
   refine AllReady.cons (o:=({dst:=some 29,op:=Op.buildSlice 31 1 #[(0,Operand.tmp 28)],type:=31,pos:= "pedersen.go:41",after:= #[{on:=5,ground:=Ground.data}],guard:=none}:Oper)) rfl (fun K hK=> ?_) AllReady.nil;go_simp;refine hK _ _ ?_;clear hK K
   try simp only [Act.put,sAa,sAb,sAc]
   refine wpAny_ready (rs:= [0]) (by kernel_rfl) (by simp) ?_;refine AllReady.cons (o:=({dst:=some 23,op:=Op.load 31 (Operand.tmp 10),type:=31,pos:= "pedersen.go:41",after:= #[],guard:=none}:Oper)) rfl (fun K hK=> ?_) AllReady.nil;go_simp;refine hK _ _ ?_;clear hK K
   try simp only [Act.put,sAa,sAb,sAc]
   refine wpAny_ready (rs:= [7]) (by kernel_rfl) (by simp) ?_;refine AllReady.cons (o:=({dst:=some 30,op:=Op.call {callee:=Callee.builtin Builtin.append,args:= #[Operand.tmp 23,Operand.tmp 29],argTypes:= #[31,31]},type:=31,pos:= "pedersen.go:41",after:= #[{on:=0,ground:=Ground.data},{on:=6,ground:=Ground.data},{on:=5,ground:=Ground.chain}],guard:=none}:Oper)) rfl (fun K hK=> ?_) AllReady.nil;refine yZ rfl (.tmp 23) (.tmp 29) rfl (E:=ze) (y:=zr p (y1,y2)) xd HA3.out rfl rfl ⟨rfl,HCU.out⟩ HLB.out HSZ.out HNX.out ?_;intro v4 w4 hacc4 hg4 _;obtain ⟨A4,c4,e4,_,_⟩:=hacc4.sl.form;generalize (List.map (fun y:UU=>zr p y.1) pre'++ [zr p (y1,y2)]).length=n4 at e4;subst e4;have HA4:=za hacc4;have HG4:=za hg4;have hB4:=HB3.out.kept HG4.out HNE.out;have cB4:=hB4.cell;have fB4:=hB4.frozen;have HB4:=za hB4;clear hacc4 hg4 hB4;refine hK _ _ ?_;clear hK K
   try simp only [Act.put,sAa,sAb,sAc]
   refine wpAny_ready (rs:= [8]) (by kernel_rfl) (by simp) ?_;refine AllReady.cons (o:=({dst:=none,op:=Op.store 31 (Operand.tmp 10) (Operand.tmp 30),type:=0,pos:= "pedersen.go:41",after:= #[{on:=7,ground:=Ground.data},{on:=7,ground:=Ground.chain},{on:=0,ground:=Ground.phase},{on:=1,ground:=Ground.phase},{on:=2,ground:=Ground.phase},{on:=3,ground:=Ground.phase},{on:=4,ground:=Ground.phase},{on:=5,ground:=Ground.phase},{on:=6,ground:=Ground.phase},{on:=7,ground:=Ground.phase}],guard:=none}:Oper)) rfl (fun K hK=> ?_) AllReady.nil;go_simp;refine hK _ _ ?_;clear hK K
   try simp only [Act.put,sAa,sAb,sAc]
   refine wpAny_done (by kernel_rfl) ?_ _;exact ⟨rfl,FIN w3 w4 A4 n4 c4 HG3.out HG4.out HA3.out HA4.out HB4.out⟩
  case done2=>
   rintro ys' W' hys ⟨⟨u,hbu,hau⟩,hBW,hKF,hbc,hbd⟩;rw [Us p hys] at hau;obtain ⟨A3,c3,e3,_,_⟩:=hau.sl.form;rw [List.length_map] at e3;subst e3;obtain ⟨A5,c5,e5,_,_⟩:=hao.sl.form;rw [List.length_map] at e5;subst e5;have hG:=zl hBW;have HG:=za hG;have hbo':=hbo.kept hG (by simp);have HAO:=za (hao.kept hG);have HBO:=za hbo';have HLT:=za hao.lt;have cO:=hbo'.cell;have cU:=hbu.cell;have hMN:w.heap.size+4≤W.heap.size:=by have:=hbb.lt;omega
   have HU:Hid (Sl ze (fun g=>w.heap.size+4≤g∧some g≠(Value.slice A5 pre.length c5).ownBlock) W' (.slice A3 (Ul l1 l2).length c3) (LQ p (l1,l2))):=za (hau.sl.more (fun g _ hg=>⟨by omega,fun e=>by have:=(HLT.out g e.symm).2;omega⟩));have HLB:Hid (((pre.map fun x:SS ze X w UA=>LQ p x.lists).length+1)*24≤140737488355328):=za (by rw [List.length_map];have:=HPL.out;omega);have HSZ:Hid (w.heap.size+4≤W'.heap.size):=za (by have:=hG.size;omega);have HNX:Hid (∀g,W'.heap.size≤g→w.heap.size+4≤g):=za (fun g hg=>Nat.le_trans HSZ.out hg);have HKF:=za hKF;have HBW:=za hBW;have HNE:Hid (some (w.heap.size+1)≠(Value.slice A5 pre.length c5).ownBlock):=za (fun e=>by have:=(HAO.out.lt _ e.symm).1;omega);clear hau hao hbo' hBW hKF hbc hbd
   gi_wp2_with (gi_at_builtin;refine YL rfl (.tmp 31) (.tmp 33) rfl (E:=zh ze) (y:=LQ p (l1,l2)) Zb HAO.out rfl rfl ⟨_,rfl,HU.out⟩ HLB.out HSZ.out HNX.out ?_)
   intro v4 w4 hacc4 hg4 _;obtain ⟨A4,c4,e4,_,_⟩:=hacc4.sl.form;generalize (List.map (fun x:SS ze X w UA=>LQ p x.lists) pre++ [LQ p (l1,l2)]).length=n4 at e4;subst e4;have HA4:=za hacc4;have HG4:=za hg4;have hB4:=HBO.out.kept HG4.out HNE.out;have cB4:=hB4.cell;have fB4:=hB4.frozen;have HB4:=za hB4;clear hacc4 hg4 hB4
   gi_wp2
   have hN2: ∀k,k< w.heap.size+4→some k≠(Value.slice A5 pre.length c5).ownBlock:=fun k hk e=>by have:=(HAO.out.lt k e.symm).1;omega
   have hN3: ∀k,(Value.slice A5 pre.length c5).ownBlock=some k→w.heap.size+4≤k:=fun k e=>(HAO.out.lt k e).1
   have hK5:KeepsFrom W0.heap.size W (w4.setCell ⟨w.heap.size+1,0,none⟩ (.slice A4 n4 c4)):=HKF.out.trans ((HAO.out.keeps HG4.out).trans (KeepsOthers.setCell _ _ _)|>.from _);have b1:=((hba.kept HG.out (by simp)).kept HG4.out (hN2 _ (by omega))).other (B':=w.heap.size+1) (by omega) (.slice A4 n4 c4);have b2:=((hbb.kept HG.out (by simp)).kept HG4.out (hN2 _ (by omega))).other (B':=w.heap.size+1) (by omega) (.slice A4 n4 c4);have hS3:W.heap.size≤W'.heap.size:=HG.out.size;refine ⟨hK5,⟨(((Below.refl _ W).grown HG.out (by omega) (by simp)).grown HG4.out (by omega) (fun k e=>by have:=hN3 k e;omega)).setCell (p:=⟨w.heap.size+1,0,none⟩) (by simp) _,Eq.trans b1 (Eq.symm hba),Eq.trans b2 (Eq.symm hbb)⟩,⟨_,HB4.out.set _, ?_⟩, ?_,((hbl.grown HG.out (by omega) (by simp)).grown HG4.out (by omega) (fun k e=>by have:=hN3 k e;omega)).setCell (p:=⟨w.heap.size+1,0,none⟩) (by simp) _,b1,b2⟩
   ·rw [List.map_append];exact HA4.out.keep (grownBy_setCell' w4 (w.heap.size+1) _) (fun g hg e=>by injection e with e;omega)
   ·exact ((hbp.grown HG.out (by simp)).grown HG4.out (hN2 _ (by omega))).grown (grownBy_setCell' w4 (w.heap.size+1) _) (fun e=>by injection e with e;omega)
  case stop2=>
   rintro c pre' W' _ h;exact h.elim
 case done=>
  rintro D zs W hD hzs ⟨⟨v,hbo,hao⟩,hbp,hbl,hba,hbb⟩ hK;have cO:=hbo.cell;rw [Tx p hzs] at hao;obtain ⟨A3,c3,e3,_,_⟩:=hao.sl.form;rw [List.length_map] at e3;subst e3
  gi_wp2
  refine ⟨by simp, .inl ⟨_,_,rfl,run_takeDeferred hK, ?_⟩⟩;refine ⟨_,results_tmp rfl _ _ _, .slice A3 (Zc f r).length c3,rfl, ?_, ?_⟩
  ·exact (hao.sl.keepc (grownBy_putObj' W D _) (fun r e=>⟨.deferred (some []),by cases e;exact hK,rfl⟩)).more (Y:=fun g=>w.heap.size≤g) (fun g _ h=>Nat.le_trans (Nat.le_add_right _ 4) h)
  ·exact zl (hbl.trans (belowK_b (w:=w) (Nat.le_refl _) W D _ _ (by omega) hK rfl rfl))
 case stop=>
  rintro D c pre W _ _ h _;exact h.elim
end
section
open Go Go.RowKit Go.Shelf
attribute [local go_sem] Oper.semAt_some
def Hr(p:Par)(f r:List (List (List Int))):List (List (List Int)):=(Zc f r).map fun x=>yv p x.1 x.2
abbrev Zs(m:List (List Int)):Prop:=m.length≤100000∧ ∀c∈m,c.length≤100000
theorem Tw(p:Par){X:Nat→Prop}{w₀:World}{G:List (List Int)→Prop}{ys:List (SS (zh ze) X w₀ G)}{z:List (List (List Int)×List (List Int))}(h:ys.map SS.lists=z):ys.map (fun y=>yv p y.lists.1 y.lists.2)=z.map (fun x=>yv p x.1 x.2):=by
 rw [←h,List.map_map];rfl
theorem Lc(n:Nat)(hn:6≤n)(p:Par)(vf vr:Value)(f r:List (List (List Int)))(X:Nat→Prop)(w:World)(hp:p.ok)(hf:Sl (zh (zh ze)) X w vf f)(hr:Sl (zh (zh ze)) X w vr r)(hb1:f.length≤100000)(hb2:r.length≤100000)(hb3: ∀c∈f,Zs c)(hb4: ∀c∈r,Zs c):
  CallsIn Fence.wide n Tryz.prog 102 #[p.v,vf,vr] w (zH (zh (zh ze)) (fun g=>w.heap.size≤g) w (Hr p f r)):=by
 have h1:1≤n:=by omega
 have HF:=za hf;have HR:=za hr;have HP:=za hp;obtain ⟨A1,c1,rfl,_,_⟩:=hf.form;obtain ⟨A2,c2,rfl,_,_⟩:=hr.form;clear hf hr hp;have HZL:Hid ((Zc f r).length≤100000):=za (by simp [Zc];omega);refine callsIn_of_wp_marks Tryz.func102 rfl trivial ?_ rfl;simp only [Tryz.ntmps102,List.size_toArray,List.length_cons,List.length_nil,Nat.reduceAdd,Nat.reduceSub,Array.replicate_succ,Array.replicate_zero,List.push_toArray,List.append_toArray,List.nil_append,List.cons_append]
 gi_wp2_with (refine ⟨trivial, ?_⟩;refine (callsIn_wide.2 (OT _ _ _ _ _ _ _)).mono ?_;rintro e w' ⟨rfl,rfl⟩)
 have hs1:(w.alloc (.cells p.cells 39)).heap.size=w.heap.size+1:=by simp
 have hs2:((w.alloc (.cells p.cells 39)).alloc (.cells #[.slice none 0 0] 104)).heap.size=w.heap.size+1+1:=by simp
 have hs3:(((w.alloc (.cells p.cells 39)).alloc (.cells #[.slice none 0 0] 104)).alloc (.cells #[.slice A1 f.length c1] 104)).heap.size=w.heap.size+1+1+1:=by simp
 have bP:Bk _ w.heap.size 39 p.cells:=(((Bk.new w 39 p.cells).alloc (.cells #[.slice none 0 0] 104)).alloc (.cells #[.slice A1 f.length c1] 104)).alloc (.cells #[.slice A2 r.length c2] 104);have bO:=((Boxed.new (w.alloc (.cells p.cells 39)) 104 (.slice none 0 0)).alloc (.cells #[.slice A1 f.length c1] 104)).alloc (.cells #[.slice A2 r.length c2] 104);have bA:=(Boxed.new ((w.alloc (.cells p.cells 39)).alloc (.cells #[.slice none 0 0] 104)) 104 (.slice A1 f.length c1)).alloc (.cells #[.slice A2 r.length c2] 104);have bB:=Boxed.new (((w.alloc (.cells p.cells 39)).alloc (.cells #[.slice none 0 0] 104)).alloc (.cells #[.slice A1 f.length c1] 104)) 104 (.slice A2 r.length c2);rw [hs1] at bO;rw [hs2] at bA;rw [hs3] at bB;have hB0:Below w.heap.size w ((((w.alloc (.cells p.cells 39)).alloc (.cells #[.slice none 0 0] 104)).alloc (.cells #[.slice A1 f.length c1] 104)).alloc (.cells #[.slice A2 r.length c2] 104)):=zy (((gAl w _ none).trans (gAl _ _ none)).trans ((gAl _ _ none).trans (gAl _ _ none)));have hsz:((((w.alloc (.cells p.cells 39)).alloc (.cells #[.slice none 0 0] 104)).alloc (.cells #[.slice A1 f.length c1] 104)).alloc (.cells #[.slice A2 r.length c2] 104)).heap.size=w.heap.size+4:=by simp
 obtain ⟨W0,hW0⟩: ∃W0,(((w.alloc (.cells p.cells 39)).alloc (.cells #[.slice none 0 0] 104)).alloc (.cells #[.slice A1 f.length c1] 104)).alloc (.cells #[.slice A2 r.length c2] 104)=W0:=⟨_,rfl⟩;rw [hW0] at bP bO bA bB hB0 hsz ⊢;clear hW0 hs1 hs2 hs3;have HPG:Hid (∀c∈f,Zs c):=za hb3;refine wpIn_rangeFunc_ownH rfl h1 (gf:=192) (lb:= #[.pointer (some ⟨w.heap.size+1+1,0,none⟩), .pointer (some ⟨w.heap.size+1+1+1,0,none⟩)]) rfl trivial (enters_of Tryz.func192 (by kernel_rfl) rfl)
  (RF (n - 1) (by omega) (w.heap.size+1+1) (w.heap.size+1+1+1) _ _ f r X w W0 Zs ⟨by simp,by simp⟩ hb3 hb4 hB0 bA bB HF.out HR.out) yV.trans (yV.b (by omega) (by omega) (by omega)) (Below.refl _ _) (fun _=>rfl)
  (fun pre W=>(∃v,Boxed W (w.heap.size+1) 104 v∧Acc (zh (zh ze)) (w.heap.size+4) 43 (fun g=>w.heap.size+4≤g) W v (pre.map fun x=>yv p x.lists.1 x.lists.2))∧Bk W w.heap.size 39 p.cells∧Below w.heap.size w W∧Boxed W (w.heap.size+1+1) 104 (.slice A1 f.length c1)∧Boxed W (w.heap.size+1+1+1) 104 (.slice A2 r.length c2))
  (fun _ _ _=>False)
  (fun pre X Y row hs hg hrow=>by
   obtain ⟨⟨v,hb,ha⟩,hk,hB,hb2,hb3⟩:=hs;have hr':=fun r e=>(hrow r e).2
   exact ⟨⟨v,hb.kept hg (ZV hb hr'),ha.keepc hg hr'⟩,hk.grown hg (XG (hk.cell 0) hr'),hB.grown hg hB.size (fun k e=>by have:=(hrow k e).1;omega),hb2.kept hg (ZV hb2 hr'),hb3.kept hg (ZV hb3 hr')⟩)
  (fun _ _ _ _ _ hs _ _=>hs)
  ⟨⟨_,bO,Acc.nil _ _ _ _ _⟩,bP,hB0,bA,bB⟩
  (fun x a' _=>a'={tmps:= #[p.v, .slice A1 f.length c1, .slice A2 r.length c2, .pointer (some ⟨w.heap.size,0,none⟩),undef,undef, .slice none 0 0, .pointer (some ⟨w.heap.size+1,0,none⟩),x.1.1.1,x.1.2.1, .slice A1 f.length c1, .slice A2 r.length c2, .func (.func 192) #[] #[.pointer (some ⟨w.heap.size+1+1,0,none⟩), .pointer (some ⟨w.heap.size+1+1+1,0,none⟩)],x.1.1.1,x.1.2.1,undef,undef,undef,undef,undef,undef,undef,undef],defers:= []})
  (fun _ _ _ _ _ _ hs _ _=>hs)
  ?assign ?body ?done ?stop
 case assign=>
  rintro l pre x W K hi hK
  gi_wp2
  exact hK _ _ (KeepsFrom.refl _ _) (yV.refl _ _ _ _) hi rfl
 case body=>
  rintro lq pre ⟨⟨⟨v1,l1⟩,⟨v2,l2⟩⟩,⟨hv1,hg1⟩,⟨hv2,hg2⟩⟩ a' W hl _ ⟨⟨v,hbo,hao⟩,hbp,hbl,hba,hbb⟩ rfl hlt;have k1:Sl (zh ze) X w v1 l1:=hv1;have k2:Sl (zh ze) X w v2 l2:=hv2;have k3:l1.length≤100000∧ ∀c∈l1,c.length≤100000:=hg1;have k4:l2.length≤100000∧ ∀c∈l2,c.length≤100000:=hg2;have hNW:=hbl.size;have HCOM:Hid (∀w',W.grownBy w' none→Calls Tryz.prog 100 #[p.v,v1,v2] w' (zH (zh ze) (fun g=>w'.heap.size≤g) w' (yv p l1 l2))):=za (fun w' hw=>callsIn_wide.1 (LP 6 (Nat.le_refl _) p v1 v2 l1 l2 X w' HP.out (k1.kept ((zl hbl).trans hw)) (k2.kept ((zl hbl).trans hw)) k3.1 k4.1 k3.2 k4.2));obtain ⟨D1,d1,rfl,_,_⟩:=k1.form;obtain ⟨D2,d2,rfl,_,_⟩:=k2.form;have HPL:Hid (pre.length< 100000):=za (Nat.lt_of_lt_of_le hlt HZL.out);obtain ⟨A5,c5,e5,_,_⟩:=hao.sl.form;rw [List.length_map] at e5;subst e5;have HAO:=za hao;have HDR:Hid (W.grownBy W.drew none):=za (zb W 1);have HBO:=za hbo;have hltO:w.heap.size+1< W.heap.size:=hbo.lt;have HS0:Hid (w.heap.size+4≤W.heap.size):=za (by have:=hbb.lt;omega);have hpr:=hbp.prule;have cO:=hbo.cell;have HLB:Hid (((pre.map fun x:SS (zh ze) X w Zs=>yv p x.lists.1 x.lists.2).length+1)*24≤140737488355328):=za (by rw [List.length_map];have:=HPL.out;omega);have FIN: ∀(w3 w4:World) (A4:Option Addr) (n4 c4:Nat),W.grownBy w3 none→w3.grownBy w4 (Value.slice A5 pre.length c5).ownBlock→Acc (zh (zh ze)) (w.heap.size+4) 43 (fun g=>w.heap.size+4≤g) w3 (.slice A5 pre.length c5) (pre.map fun x:SS (zh ze) X w Zs=>yv p x.lists.1 x.lists.2)→Acc (zh (zh ze)) (w.heap.size+4) 43 (fun g=>w.heap.size+4≤g) w4 (.slice A4 n4 c4) ((pre.map fun x:SS (zh ze) X w Zs=>yv p x.lists.1 x.lists.2)++ [yv p l1 l2])→Boxed w4 (w.heap.size+1) 104 (.slice A5 pre.length c5)→(fun w5:World=>KeepsFrom W0.heap.size W w5∧yV w.heap.size (w.heap.size+1+1) (w.heap.size+1+1+1) W w5∧(∃u,Boxed w5 (w.heap.size+1) 104 u∧Acc (zh (zh ze)) (w.heap.size+4) 43 (fun g=>w.heap.size+4≤g) w5 u ((pre++ [(⟨((.slice D1 l1.length d1,l1),(.slice D2 l2.length d2,l2)),⟨hv1,hg1⟩,⟨hv2,hg2⟩⟩:SS (zh ze) X w Zs)]).map fun x=>yv p x.lists.1 x.lists.2))∧Bk w5 w.heap.size 39 p.cells∧Below w.heap.size w w5∧Boxed w5 (w.heap.size+1+1) 104 (.slice A1 f.length c1)∧Boxed w5 (w.heap.size+1+1+1) 104 (.slice A2 r.length c2)) (w4.setCell ⟨w.heap.size+1,0,none⟩ (.slice A4 n4 c4)):=by
   intro w3 w4 A4 n4 c4 hG3 hG4 hA3 hA4 hB4;have hN2: ∀k,k< w.heap.size+4→some k≠(Value.slice A5 pre.length c5).ownBlock:=fun k hk e=>by have:=(hA3.lt k e.symm).1;omega
   have hN3: ∀k,(Value.slice A5 pre.length c5).ownBlock=some k→w.heap.size+4≤k:=fun k e=>(hA3.lt k e).1
   have hK5:KeepsOthers W (w4.setCell ⟨w.heap.size+1,0,none⟩ (.slice A4 n4 c4)):=((xQ hG3).trans (hA3.keeps hG4)).trans (KeepsOthers.setCell _ _ _);have b1:=((hba.kept hG3 (by simp)).kept hG4 (hN2 _ (by omega))).other (B':=w.heap.size+1) (by omega) (.slice A4 n4 c4);have b2:=((hbb.kept hG3 (by simp)).kept hG4 (hN2 _ (by omega))).other (B':=w.heap.size+1) (by omega) (.slice A4 n4 c4);have hS3:W.heap.size≤w3.heap.size:=hG3.size;refine ⟨hK5.from _,⟨(((Below.refl _ W).grown hG3 (by omega) (by simp)).grown hG4 (by omega) (fun k e=>by have:=hN3 k e;omega)).setCell (p:=⟨w.heap.size+1,0,none⟩) (by simp) _,Eq.trans b1 (Eq.symm hba),Eq.trans b2 (Eq.symm hbb)⟩,⟨_,hB4.set _, ?_⟩, ?_,((hbl.grown hG3 (by omega) (by simp)).grown hG4 (by omega) (fun k e=>by have:=hN3 k e;omega)).setCell (p:=⟨w.heap.size+1,0,none⟩) (by simp) _,b1,b2⟩
   ·rw [List.map_append];exact hA4.keep (grownBy_setCell' w4 (w.heap.size+1) _) (fun g hg e=>by injection e with e;omega)
   ·exact ((hbp.grown hG3 (by simp)).grown hG4 (hN2 _ (by omega))).grown (grownBy_setCell' w4 (w.heap.size+1) _) (fun e=>by injection e with e;omega)
  clear k1 k2 k3 k4 hlt;dsimp only
  gi_wp2
  refine xx (l0:=lq) (R:=fun _ w5=>KeepsFrom W0.heap.size W w5∧yV w.heap.size (w.heap.size+1+1) (w.heap.size+1+1+1) W w5∧(∃u,Boxed w5 (w.heap.size+1) 104 u∧Acc (zh (zh ze)) (w.heap.size+4) 43 (fun g=>w.heap.size+4≤g) w5 u ((pre++ [(⟨((.slice D1 l1.length d1,l1),(.slice D2 l2.length d2,l2)),⟨hv1,hg1⟩,⟨hv2,hg2⟩⟩:SS (zh ze) X w Zs)]).map fun x=>yv p x.lists.1 x.lists.2))∧Bk w5 w.heap.size 39 p.cells∧Below w.heap.size w w5∧Boxed w5 (w.heap.size+1+1) 104 (.slice A1 f.length c1)∧Boxed w5 (w.heap.size+1+1+1) 104 (.slice A2 r.length c2)) (by kernel_rfl) (by kernel_rfl) (fun a w h=>h) ?_;refine wpAny_take (i:=2) (oi:=({dst:=some 17,op:=Op.move (Operand.tmp 8),type:=43,pos:= "pedersen.go:80",after:= #[],guard:=none}:Oper)) (v:= ?vq1) rfl (by kernel_rfl) (by kernel_rfl) (by kernel_rfl) (fun _ _ _ h=>h) (Or.inl ⟨by rfl, ?hq1⟩) ?rq1
  case hq1=>(intro w;go_simp;first|done|with_reducible rfl)
  try simp only [Act.put,sAa,sAb,sAc]
  refine wpAny_take (i:=3) (oi:=({dst:=some 18,op:=Op.move (Operand.tmp 9),type:=43,pos:= "pedersen.go:80",after:= #[],guard:=none}:Oper)) (v:= ?vq2) rfl (by kernel_rfl) (by kernel_rfl) (by kernel_rfl) (fun _ _ _ h=>h) (Or.inl ⟨by rfl, ?hq2⟩) ?rq2
  case hq2=>(intro w;go_simp;first|done|with_reducible rfl)
  try simp only [Act.put,sAa,sAb,sAc]
  refine wpAny_ready (rs:= [0,1]) (by kernel_rfl) (by simp) ?_;refine AllReady.cons (o:=({dst:=some 15,op:=Op.load 104 (Operand.tmp 7),type:=104,pos:= "pedersen.go:80",after:= #[],guard:=none}:Oper)) rfl (fun K hK=> ?_) ?_
  ·skip
   go_simp;refine hK _ _ ?_;clear hK K
   try simp only [Act.put,sAa,sAb,sAc]
   refine wpAny_ready (rs:= [1]) (by kernel_rfl) (by simp) ?_;refine AllReady.cons (o:=({dst:=some 16,op:=Op.load 39 (Operand.tmp 3),type:=39,pos:= "pedersen.go:80",after:= #[],guard:=none}:Oper)) rfl (fun K hK=> ?_) AllReady.nil;go_simp;refine hK _ _ ?_;clear hK K
   try simp only [Act.put,sAa,sAb,sAc]
   refine wpAny_ready (rs:= [4]) (by kernel_rfl) (by simp) ?_;refine AllReady.cons (o:=({dst:=some 19,op:=Op.call {callee:=Callee.value (Operand.func 100),args:= #[Operand.tmp 16,Operand.tmp 17,Operand.tmp 18],argTypes:= #[39,43,43]},type:=43,pos:= "pedersen.go:80",after:= #[{on:=1,ground:=Ground.data},{on:=2,ground:=Ground.data},{on:=3,ground:=Ground.data}],guard:=none}:Oper)) rfl (fun K hK=> ?_) AllReady.nil;go_simp
   (go_at_call 100;(with_reducible refine (HCOM.out _ HDR.out).mono ?_);rintro e w3 ⟨v3,rfl,hs3,hg3⟩)
   obtain ⟨A6,c6,e6,_,_⟩:=hs3.form;generalize (yv p l1 l2).length=n6 at e6;subst e6;have HG3:Hid (W.grownBy w3 none):=za ((zb W 1).trans hg3);have HA3:=za (HAO.out.kept HG3.out);have HB3:=za (HBO.out.kept HG3.out (by simp));have HSZ:Hid (w.heap.size+4≤w3.heap.size):=za (Nat.le_trans HS0.out HG3.out.size);have HNX:Hid (∀g,w3.heap.size≤g→w.heap.size+4≤g):=za (fun g hg=>Nat.le_trans HSZ.out hg);have HNE:Hid (some (w.heap.size+1)≠(Value.slice A5 pre.length c5).ownBlock):=za (fun e=>by have:=(HA3.out.lt _ e.symm).1;omega);have HU:Hid (Sl (zh ze) (fun g=>w.heap.size+4≤g∧some g≠(Value.slice A5 pre.length c5).ownBlock) w3 (.slice A6 n6 c6) (yv p l1 l2)):=za (hs3.more (fun g _ hg=>⟨Nat.le_trans HS0.out hg,fun e=>by have h1:=(HAO.out.lt g e.symm).2;have h2:W.heap.size≤g:=hg;omega⟩));have hc3:=HB3.out.cell;have hc3a:=(HB3.out.alloc (.cells #[.slice A6 n6 c6] 43)).cell;clear hg3 hs3;dsimp only;refine hK _ _ ?_;clear hK K
   try simp only [Act.put,sAa,sAb,sAc]
   refine wpAny_ready (rs:= [5]) (by kernel_rfl) (by simp) ?_;refine AllReady.cons (o:=({dst:=some 20,op:=Op.buildSlice 104 1 #[(0,Operand.tmp 19)],type:=104,pos:= "pedersen.go:80",after:= #[{on:=4,ground:=Ground.data}],guard:=none}:Oper)) rfl (fun K hK=> ?_) AllReady.nil;go_simp;refine hK _ _ ?_;clear hK K
   try simp only [Act.put,sAa,sAb,sAc]
   refine wpAny_ready (rs:= [6]) (by kernel_rfl) (by simp) ?_;refine AllReady.cons (o:=({dst:=some 21,op:=Op.call {callee:=Callee.builtin Builtin.append,args:= #[Operand.tmp 15,Operand.tmp 20],argTypes:= #[104,104]},type:=104,pos:= "pedersen.go:80",after:= #[{on:=0,ground:=Ground.data},{on:=5,ground:=Ground.data},{on:=4,ground:=Ground.chain}],guard:=none}:Oper)) rfl (fun K hK=> ?_) AllReady.nil;refine yZ rfl (.tmp 15) (.tmp 20) rfl (E:=zh (zh ze)) (y:=yv p l1 l2) YD HA3.out rfl rfl ⟨_,rfl,HU.out⟩ HLB.out HSZ.out HNX.out ?_;intro v4 w4 hacc4 hg4 _;obtain ⟨A4,c4,e4,_,_⟩:=hacc4.sl.form;generalize (List.map (fun x:SS (zh ze) X w Zs=>yv p x.lists.1 x.lists.2) pre++ [yv p l1 l2]).length=n4 at e4;subst e4;have HA4:=za hacc4;have HG4:=za hg4;have hB4:=HB3.out.kept HG4.out HNE.out;have cB4:=hB4.cell;have fB4:=hB4.frozen;have HB4:=za hB4;clear hacc4 hg4 hB4;refine hK _ _ ?_;clear hK K
   try simp only [Act.put,sAa,sAb,sAc]
   refine wpAny_ready (rs:= [7]) (by kernel_rfl) (by simp) ?_;refine AllReady.cons (o:=({dst:=none,op:=Op.store 104 (Operand.tmp 7) (Operand.tmp 21),type:=0,pos:= "pedersen.go:80",after:= #[{on:=6,ground:=Ground.data},{on:=6,ground:=Ground.chain},{on:=0,ground:=Ground.phase},{on:=1,ground:=Ground.phase},{on:=2,ground:=Ground.phase},{on:=3,ground:=Ground.phase},{on:=4,ground:=Ground.phase},{on:=5,ground:=Ground.phase},{on:=6,ground:=Ground.phase}],guard:=none}:Oper)) rfl (fun K hK=> ?_) AllReady.nil;go_simp;refine hK _ _ ?_;clear hK K
   try simp only [Act.put,sAa,sAb,sAc]
   refine wpAny_done (by kernel_rfl) ?_ _;exact ⟨rfl,FIN w3 w4 A4 n4 c4 HG3.out HG4.out HA3.out HA4.out HB4.out⟩
  refine AllReady.cons (o:=({dst:=some 16,op:=Op.load 39 (Operand.tmp 3),type:=39,pos:= "pedersen.go:80",after:= #[],guard:=none}:Oper)) rfl (fun K hK=> ?_) AllReady.nil;go_simp;refine hK _ _ ?_;clear hK K
  try simp only [Act.put,sAa,sAb,sAc]
  refine wpAny_ready (rs:= [0,4]) (by kernel_rfl) (by simp) ?_;refine AllReady.cons (o:=({dst:=some 15,op:=Op.load 104 (Operand.tmp 7),type:=104,pos:= "pedersen.go:80",after:= #[],guard:=none}:Oper)) rfl (fun K hK=> ?_) ?_
  ·skip
   go_simp;refine hK _ _ ?_;clear hK K
   try simp only [Act.put,sAa,sAb,sAc]
   refine wpAny_ready (rs:= [4]) (by kernel_rfl) (by simp) ?_;refine AllReady.cons (o:=({dst:=some 19,op:=Op.call {callee:=Callee.value (Operand.func 100),args:= #[Operand.tmp 16,Operand.tmp 17,Operand.tmp 18],argTypes:= #[39,43,43]},type:=43,pos:= "pedersen.go:80",after:= #[{on:=1,ground:=Ground.data},{on:=2,ground:=Ground.data},{on:=3,ground:=Ground.data}],guard:=none}:Oper)) rfl (fun K hK=> ?_) AllReady.nil;go_simp
   (go_at_call 100;(with_reducible refine (HCOM.out _ HDR.out).mono ?_);rintro e w3 ⟨v3,rfl,hs3,hg3⟩)
   obtain ⟨A6,c6,e6,_,_⟩:=hs3.form;generalize (yv p l1 l2).length=n6 at e6;subst e6;have HG3:Hid (W.grownBy w3 none):=za ((zb W 1).trans hg3);have HA3:=za (HAO.out.kept HG3.out);have HB3:=za (HBO.out.kept HG3.out (by simp));have HSZ:Hid (w.heap.size+4≤w3.heap.size):=za (Nat.le_trans HS0.out HG3.out.size);have HNX:Hid (∀g,w3.heap.size≤g→w.heap.size+4≤g):=za (fun g hg=>Nat.le_trans HSZ.out hg);have HNE:Hid (some (w.heap.size+1)≠(Value.slice A5 pre.length c5).ownBlock):=za (fun e=>by have:=(HA3.out.lt _ e.symm).1;omega);have HU:Hid (Sl (zh ze) (fun g=>w.heap.size+4≤g∧some g≠(Value.slice A5 pre.length c5).ownBlock) w3 (.slice A6 n6 c6) (yv p l1 l2)):=za (hs3.more (fun g _ hg=>⟨Nat.le_trans HS0.out hg,fun e=>by have h1:=(HAO.out.lt g e.symm).2;have h2:W.heap.size≤g:=hg;omega⟩));have hc3:=HB3.out.cell;have hc3a:=(HB3.out.alloc (.cells #[.slice A6 n6 c6] 43)).cell;clear hg3 hs3;dsimp only;refine hK _ _ ?_;clear hK K
   try simp only [Act.put,sAa,sAb,sAc]
   refine wpAny_ready (rs:= [5]) (by kernel_rfl) (by simp) ?_;refine AllReady.cons (o:=({dst:=some 20,op:=Op.buildSlice 104 1 #[(0,Operand.tmp 19)],type:=104,pos:= "pedersen.go:80",after:= #[{on:=4,ground:=Ground.data}],guard:=none}:Oper)) rfl (fun K hK=> ?_) AllReady.nil;go_simp;refine hK _ _ ?_;clear hK K
   try simp only [Act.put,sAa,sAb,sAc]
   refine wpAny_ready (rs:= [6]) (by kernel_rfl) (by simp) ?_;refine AllReady.cons (o:=({dst:=some 21,op:=Op.call {callee:=Callee.builtin Builtin.append,args:= #[Operand.tmp 15,Operand.tmp 20],argTypes:= #[104,104]},type:=104,pos:= "pedersen.go:80",after:= #[{on:=0,ground:=Ground.data},{on:=5,ground:=Ground.data},{on:=4,ground:=Ground.chain}],guard:=none}:Oper)) rfl (fun K hK=> ?_) AllReady.nil;refine yZ rfl (.tmp 15) (.tmp 20) rfl (E:=zh (zh ze)) (y:=yv p l1 l2) YD HA3.out rfl rfl ⟨_,rfl,HU.out⟩ HLB.out HSZ.out HNX.out ?_;intro v4 w4 hacc4 hg4 _;obtain ⟨A4,c4,e4,_,_⟩:=hacc4.sl.form;generalize (List.map (fun x:SS (zh ze) X w Zs=>yv p x.lists.1 x.lists.2) pre++ [yv p l1 l2]).length=n4 at e4;subst e4;have HA4:=za hacc4;have HG4:=za hg4;have hB4:=HB3.out.kept HG4.out HNE.out;have cB4:=hB4.cell;have fB4:=hB4.frozen;have HB4:=za hB4;clear hacc4 hg4 hB4;refine hK _ _ ?_;clear hK K
   try simp only [Act.put,sAa,sAb,sAc]
   refine wpAny_ready (rs:= [7]) (by kernel_rfl) (by simp) ?_;refine AllReady.cons (o:=({dst:=none,op:=Op.store 104 (Operand.tmp 7) (Operand.tmp 21),type:=0,pos:= "pedersen.go:80",after:= #[{on:=6,ground:=Ground.data},{on:=6,ground:=Ground.chain},{on:=0,ground:=Ground.phase},{on:=1,ground:=Ground.phase},{on:=2,ground:=Ground.phase},{on:=3,ground:=Ground.phase},{on:=4,ground:=Ground.phase},{on:=5,ground:=Ground.phase},{on:=6,ground:=Ground.phase}],guard:=none}:Oper)) rfl (fun K hK=> ?_) AllReady.nil;go_simp;refine hK _ _ ?_;clear hK K
   try simp only [Act.put,sAa,sAb,sAc]
   refine wpAny_done (by kernel_rfl) ?_ _;exact ⟨rfl,FIN w3 w4 A4 n4 c4 HG3.out HG4.out HA3.out HA4.out HB4.out⟩
  refine AllReady.cons (o:=({dst:=some 19,op:=Op.call {callee:=Callee.value (Operand.func 100),args:= #[Operand.tmp 16,Operand.tmp 17,Operand.tmp 18],argTypes:= #[39,43,43]},type:=43,pos:= "pedersen.go:80",after:= #[{on:=1,ground:=Ground.data},{on:=2,ground:=Ground.data},{on:=3,ground:=Ground.data}],guard:=none}:Oper)) rfl (fun K hK=> ?_) AllReady.nil;go_simp
  (go_at_call 100;(with_reducible refine (HCOM.out _ HDR.out).mono ?_);rintro e w3 ⟨v3,rfl,hs3,hg3⟩)
  obtain ⟨A6,c6,e6,_,_⟩:=hs3.form;generalize (yv p l1 l2).length=n6 at e6;subst e6;have HG3:Hid (W.grownBy w3 none):=za ((zb W 1).trans hg3);have HA3:=za (HAO.out.kept HG3.out);have HB3:=za (HBO.out.kept HG3.out (by simp));have HSZ:Hid (w.heap.size+4≤w3.heap.size):=za (Nat.le_trans HS0.out HG3.out.size);have HNX:Hid (∀g,w3.heap.size≤g→w.heap.size+4≤g):=za (fun g hg=>Nat.le_trans HSZ.out hg);have HNE:Hid (some (w.heap.size+1)≠(Value.slice A5 pre.length c5).ownBlock):=za (fun e=>by have:=(HA3.out.lt _ e.symm).1;omega);have HU:Hid (Sl (zh ze) (fun g=>w.heap.size+4≤g∧some g≠(Value.slice A5 pre.length c5).ownBlock) w3 (.slice A6 n6 c6) (yv p l1 l2)):=za (hs3.more (fun g _ hg=>⟨Nat.le_trans HS0.out hg,fun e=>by have h1:=(HAO.out.lt g e.symm).2;have h2:W.heap.size≤g:=hg;omega⟩));have hc3:=HB3.out.cell;have hc3a:=(HB3.out.alloc (.cells #[.slice A6 n6 c6] 43)).cell;clear hg3 hs3;dsimp only;refine hK _ _ ?_;clear hK K
  try simp only [Act.put,sAa,sAb,sAc]
  refine wpAny_ready (rs:= [0,5]) (by kernel_rfl) (by simp) ?_;refine AllReady.cons (o:=({dst:=some 15,op:=Op.load 104 (Operand.tmp 7),type:=104,pos:= "pedersen.go:80",after:= #[],guard:=none}:Oper)) rfl (fun K hK=> ?_) ?_
  ·skip
   go_simp;refine hK _ _ ?_;clear hK K
   try simp only [Act.put,sAa,sAb,sAc]
   refine wpAny_ready (rs:= [5]) (by kernel_rfl) (by simp) ?_;refine AllReady.cons (o:=({dst:=some 20,op:=Op.buildSlice 104 1 #[(0,Operand.tmp 19)],type:=104,pos:= "pedersen.go:80",after:= #[{on:=4,ground:=Ground.data}],guard:=none}:Oper)) rfl (fun K hK=> ?_) AllReady.nil;go_simp;refine hK _ _ ?_;clear hK K
   try simp only [Act.put,sAa,sAb,sAc]
   refine wpAny_ready (rs:= [6]) (by kernel_rfl) (by simp) ?_;refine AllReady.cons (o:=({dst:=some 21,op:=Op.call {callee:=Callee.builtin Builtin.append,args:= #[Operand.tmp 15,Operand.tmp 20],argTypes:= #[104,104]},type:=104,pos:= "pedersen.go:80",after:= #[{on:=0,ground:=Ground.data},{on:=5,ground:=Ground.data},{on:=4,ground:=Ground.chain}],guard:=none}:Oper)) rfl (fun K hK=> ?_) AllReady.nil;refine yZ rfl (.tmp 15) (.tmp 20) rfl (E:=zh (zh ze)) (y:=yv p l1 l2) YD HA3.out rfl rfl ⟨_,rfl,HU.out⟩ HLB.out HSZ.out HNX.out ?_;intro v4 w4 hacc4 hg4 _;obtain ⟨A4,c4,e4,_,_⟩:=hacc4.sl.form;generalize (List.map (fun x:SS (zh ze) X w Zs=>yv p x.lists.1 x.lists.2) pre++ [yv p l1 l2]).length=n4 at e4;subst e4;have HA4:=za hacc4;have HG4:=za hg4;have hB4:=HB3.out.kept HG4.out HNE.out;have cB4:=hB4.cell;have fB4:=hB4.frozen;have HB4:=za hB4;clear hacc4 hg4 hB4;refine hK _ _ ?_;clear hK K
   try simp only [Act.put,sAa,sAb,sAc]
   refine wpAny_ready (rs:= [7]) (by kernel_rfl) (by simp) ?_;refine AllReady.cons (o:=({dst:=none,op:=Op.store 104 (Operand.tmp 7) (Operand.tmp 21),type:=0,pos:= "pedersen.go:80",after:= #[{on:=6,ground:=Ground.data},{on:=6,ground:=Ground.chain},{on:=0,ground:=Ground.phase},{on:=1,ground:=Ground.phase},{on:=2,ground:=Ground.phase},{on:=3,ground:=Ground.phase},{on:=4,ground:=Ground.phase},{on:=5,ground:=Ground.phase},{on:=6,ground:=Ground.phase}],guard:=none}:Oper)) rfl (fun K hK=> ?_) AllReady.nil;go_simp;refine hK _ _ ?_;clear hK K
   try simp only [Act.put,sAa,sAb,sAc]
   refine wpAny_done (by kernel_rfl) ?_ _;exact ⟨rfl,FIN w3 w4 A4 n4 c4 HG3.out HG4.out HA3.out HA4.out HB4.out⟩
  refine AllReady.cons (o:=({dst:=some 20,op:=Op.buildSlice 104 1 #[(0,Operand.tmp 19)],type:=104,pos:= "pedersen.go:80",after:= #[{on:=4,ground:=Ground.data}],guard:=none}:Oper)) rfl (fun K hK=> ?_) AllReady.nil;go_simp;refine hK _ _ ?_;clear hK K
  try simp only [Act.put,sAa,sAb,sAc]
  refine wpAny_ready (rs:= [0]) (by kernel_rfl) (by simp) ?_;refine AllReady.cons (o:=({dst:=some 15,op:=Op.load 104 (Operand.tmp 7),type:=104,pos:= "pedersen.go:80",after:= #[],guard:=none}:Oper)) rfl (fun K hK=> ?_) AllReady.nil;go_simp;refine hK _ _ ?_;clear hK K
  try simp only [Act.put,sAa,sAb,sAc]
  refine wpAny_ready (rs:= [6]) (by kernel_rfl) (by simp) ?_;refine AllReady.cons (o:=({dst:=some 21,op:=Op.call {callee:=Callee.builtin Builtin.append,args:= #[Operand.tmp 15,Operand.tmp 20],argTypes:= #[104,104]},type:=104,pos:= "pedersen.go:80",after:= #[{on:=0,ground:=Ground.data},{on:=5,ground:=Ground.data},{on:=4,ground:=Ground.chain}],guard:=none}:Oper)) rfl (fun K hK=> ?_) AllReady.nil;refine yZ rfl (.tmp 15) (.tmp 20) rfl (E:=zh (zh ze)) (y:=yv p l1 l2) YD HA3.out rfl rfl ⟨_,rfl,HU.out⟩ HLB.out HSZ.out HNX.out ?_;intro v4 w4 hacc4 hg4 _;obtain ⟨A4,c4,e4,_,_⟩:=hacc4.sl.form;generalize (List.map (fun x:SS (zh ze) X w Zs=>yv p x.lists.1 x.lists.2) pre++ [yv p l1 l2]).length=n4 at e4;subst e4;have HA4:=za hacc4;have HG4:=za hg4;have hB4:=HB3.out.kept HG4.out HNE.out;have cB4:=hB4.cell;have fB4:=hB4.frozen;have HB4:=za hB4;clear hacc4 hg4 hB4;refine hK _ _ ?_;clear hK K
  try simp only [Act.put,sAa,sAb,sAc]
  refine wpAny_ready (rs:= [7]) (by kernel_rfl) (by simp) ?_;refine AllReady.cons (o:=({dst:=none,op:=Op.store 104 (Operand.tmp 7) (Operand.tmp 21),type:=0,pos:= "pedersen.go:80",after:= #[{on:=6,ground:=Ground.data},{on:=6,ground:=Ground.chain},{on:=0,ground:=Ground.phase},{on:=1,ground:=Ground.phase},{on:=2,ground:=Ground.phase},{on:=3,ground:=Ground.phase},{on:=4,ground:=Ground.phase},{on:=5,ground:=Ground.phase},{on:=6,ground:=Ground.phase}],guard:=none}:Oper)) rfl (fun K hK=> ?_) AllReady.nil;go_simp;refine hK _ _ ?_;clear hK K
  try simp only [Act.put,sAa,sAb,sAc]
  refine wpAny_done (by kernel_rfl) ?_ _;exact ⟨rfl,FIN w3 w4 A4 n4 c4 HG3.out HG4.out HA3.out HA4.out HB4.out⟩
 case done=>
  rintro D zs W hD hzs ⟨⟨v,hbo,hao⟩,hbp,hbl,hba,hbb⟩ hK;have cO:=hbo.cell;rw [Tw p hzs] at hao;obtain ⟨A3,c3,e3,_,_⟩:=hao.sl.form;rw [List.length_map] at e3;subst e3
  gi_wp2
  refine ⟨by simp, .inl ⟨_,_,rfl,run_takeDeferred hK, ?_⟩⟩;refine ⟨_,results_tmp rfl _ _ _, .slice A3 (Zc f r).length c3,rfl, ?_, ?_⟩
  ·exact (hao.sl.keepc (grownBy_putObj' W D _) (fun r e=>⟨.deferred (some []),by cases e;exact hK,rfl⟩)).more (Y:=fun g=>w.heap.size≤g) (fun g _ h=>Nat.le_trans (Nat.le_add_right _ 4) h)
  ·exact zl (hbl.trans (belowK_b (w:=w) (Nat.le_refl _) W D _ _ (by omega) hK rfl rfl))
 case stop=>
  rintro D c pre W _ _ h _;exact h.elim
end
end Go.Proofs.YtkdfjkdphdfclaaGreatDoor

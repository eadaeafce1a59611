/- Proves for the statement AvssNamesCardSaid, under no other condition than the statement's own, that the card avssNames holds of the program. Part 4. -/
import Derived.Test.YtkdfjkdphdfclaaGreatDoorZ3
import Derived.Orders
import Derived.StillTail
set_option maxRecDepth 100000
set_option maxHeartbeats 16000000
set_option linter.unusedVariables false
set_option linter.unusedSimpArgs false
namespace Go.Proofs.YtkdfjkdphdfclaaGreatDoor
section
open Go Go.RowKit
def Xm(b:Bool)(w:World)(e:Ending)(w':World):Prop:= ∃n:Int,e= .returned (.int .i64 n)∧decide (0≤n)=b∧I64 n∧w.grownBy w' none
theorem MS(p:Par)(B:Nat)(x:Int)(w:World)(hp:p.ok)(hb:Bk w B 39 p.cells)(hx:U64 x):
  Calls Tryz.prog 147 #[.int .u64 x, .pointer (some ⟨B,0,none⟩)] w fun e w'=>e= .returned (.bool (!isB p x))∧w.grownBy w' none:=by
 have HC:=za (Li p x w hp hx);have hpr:=hb.prule;clear hp hb hx;go_enter Tryz.func147,Tryz.ntmps147;go_wp2_with fail;refine HC.out.mono ?_;rintro e w1 ⟨rfl,hg⟩;have HG:=za hg;clear hg hpr;go_wp2;go_ret;exact ⟨rfl,HG.out⟩
theorem RU(p:Par)(B:Nat)(v:Value)(l:List Int)(X:Nat→Prop)(w:World)(hp:p.ok)(hb:Bk w B 39 p.cells)(h:Sl ze X w v l):
  Calls Tryz.prog 186 #[v, .func (.func 147) #[] #[.pointer (some ⟨B,0,none⟩)]] w (Xm (l.any fun x=> !isB p x) w):=by
 have HP:=za hp;have HB:=za hb;have H:=za h;have hl:=h.bound;obtain ⟨A,c,rfl,_,_⟩:=h.form;clear hp hb h;go_enter Tryz.func186,Tryz.ntmps186;go_wp2_with fail;go_loopg [8] l.length (fun n s8 wx=> ∃j:Nat,j+n=l.length∧s8= .int .i64 j∧Hid (w.grownBy wx none∧ ∀i (h:i< l.length),i< j→isB p l[i]=true))
 case atStart=>exact ⟨0,by omega,rfl,za ⟨World.grownBy.refl w none,fun i hi h=>absurd h (by omega)⟩⟩
 case round=>
  obtain ⟨j,hj,rfl,HX⟩:=hrel;cases gk with
  |zero=>
   obtain rfl:j=l.length:=by omega
   have HE:Hid (Xm (l.any fun x=> !isB p x) w (.returned (.int .i64 (-1))) wr):=za ⟨-1,rfl,by
    have:(l.any fun x=> !isB p x)=false:=by
     rw [List.any_eq_false];intro b hb;obtain ⟨i,hi,rfl⟩:=List.getElem_of_mem hb;simp [HX.out.2 i hi hi]
    rw [this];rfl,⟨by decide,by decide⟩,HX.out.1⟩
   clear HX;go_wp2;go_ret;exact HE.out
  |succ k=>
   have hjn:(j:Int)< (l.length:Int):=by omega
   have hjN:j< l.length:=by omega
   obtain ⟨g,o,c',e,_,_,hcu,hu⟩:=(H.out.kept HX.out.1).atU hjN;injection e with e1 e2 e3
   subst e1 e3;have HC:=za (MS p B l[j] wr HP.out (HB.out.grown HX.out.1 (by simp)) hu);have HV:Hid (isB p l[j]=true∨isB p l[j]=false):=za (by cases isB p l[j]<;>simp);have HR:Hid (isB p l[j]=true→ ∀i (h:i< l.length),i< j+1→isB p l[i]=true):=za (fun h i hi hl=>by
    rcases Nat.lt_or_ge i j with h1|h1
    ·exact HX.out.2 i hi h1
    ·obtain rfl:i=j:=by omega
     exact h)
   have HN:Hid (isB p l[j]=false→(l.any fun x=> !isB p x)=true):=za (fun h=>List.any_eq_true.2 ⟨_,List.getElem_mem hjN,by simp [h]⟩);have HG:=za HX.out.1;clear HX hu e2;generalize isB p l[j]=b at *;generalize l[j]=x at *;rcases HV.out with rfl|rfl
   ·go_wp2_with fail;refine HC.out.mono ?_;rintro e w1 ⟨rfl,hg⟩;have HG1:=za (HG.out.trans hg);clear hg;go_wp2;go_roundg k
    case measure=>omega
    case rel=>exact ⟨j+1,by omega,by go_num,za ⟨HG1.out,HR.out (by simp)⟩⟩
   ·have HE:Hid (∀w1,w.grownBy w1 none→Xm (l.any fun x=> !isB p x) w (.returned (.int .i64 j)) w1):=za (fun w1 hg=>⟨j,rfl,by rw [HN.out rfl];simp,⟨by omega,by omega⟩,hg⟩);go_wp2_with fail;refine HC.out.mono ?_;rintro e w1 ⟨rfl,hg⟩;have HG1:=za (HG.out.trans hg);clear hg;go_wp2;go_ret;exact HE.out _ HG1.out
theorem Ua(p:Par)(B:Nat)(v:Value)(l:List Int)(X:Nat→Prop)(w:World)(hp:p.ok)(hb:Bk w B 39 p.cells)(h:Sl ze X w v l):
  Calls Tryz.prog 146 #[v, .func (.func 147) #[] #[.pointer (some ⟨B,0,none⟩)]] w fun e w'=>e= .returned (.bool (l.any fun x=> !isB p x))∧w.grownBy w' none:=by
 have HC:=za (RU p B v l X w hp hb h);obtain ⟨A,c,rfl,_,_⟩:=h.form;clear hp hb h;go_enter Tryz.func146,Tryz.ntmps146;go_wp2_with fail;refine HC.out.mono ?_;rintro e w1 ⟨r,rfl,hr,_,hg⟩;have HG:=za hg;have HR:=za hr;clear hg hr;go_wp2;go_ret;exact ⟨zm HR.out,HG.out⟩
def yz(p:Par)(long:Int)(l:List Int):Bool:=decide ((l.length:Int)≠long)||l.any fun x=> !isB p x
theorem NO(p:Par)(Bn B:Nat)(long:Int)(v:Value)(l:List Int)(X:Nat→Prop)(w:World)(hp:p.ok)(hn:Bk w Bn 3 #[.int .i64 long])(hb:Bk w B 39 p.cells)(h:Sl ze X w v l):
  Calls Tryz.prog 145 #[v, .pointer (some ⟨Bn,0,none⟩), .pointer (some ⟨B,0,none⟩)] w fun e w'=>e= .returned (.bool (yz p long l))∧w.grownBy w' none:=by
 have HC:=za (Ua p B v l X w hp hb h);have hc:=hn.cell 0;have hc':w.cell? ⟨Bn,0,none⟩=some (.int .i64 long):=hc;obtain ⟨A,c,rfl,_,_⟩:=h.form;clear hp hb h hn hc;by_cases hne:(l.length:Int)=long
 ·have HR:Hid (yz p long l=l.any fun x=> !isB p x):=za (by simp [yz,hne]);go_enter Tryz.func145,Tryz.ntmps145;go_wp2_with fail;refine HC.out.mono ?_;rintro e w1 ⟨rfl,hg⟩;have HG:=za hg;clear hg;go_wp2;go_ret;exact ⟨zm HR.out.symm,HG.out⟩
 ·have HR:Hid (yz p long l=true):=za (by simp [yz,hne]);go_enter Tryz.func145,Tryz.ntmps145;go_wp2;go_ret;exact ⟨zm HR.out.symm,World.grownBy.refl w none⟩
theorem RT(p:Par)(Bn B:Nat)(long:Int)(v:Value)(l:List (List Int))(X:Nat→Prop)(w:World)(hp:p.ok)(hn:Bk w Bn 3 #[.int .i64 long])(hb:Bk w B 39 p.cells)(h:Sl (zh ze) X w v l):
  Calls Tryz.prog 185 #[v, .func (.func 145) #[] #[.pointer (some ⟨Bn,0,none⟩), .pointer (some ⟨B,0,none⟩)]] w (Xm (l.any fun x=>yz p long x) w):=by
 have HP:=za hp;have HB:=za hb;have HBN:=za hn;have H:=za h;have hl:=h.bound;obtain ⟨A,c,rfl,_,_⟩:=h.form;clear hp hb hn h;go_enter Tryz.func185,Tryz.ntmps185;go_wp2_with fail;go_loopg [8] l.length (fun n s8 wx=> ∃j:Nat,j+n=l.length∧s8= .int .i64 j∧Hid (w.grownBy wx none∧ ∀i (h:i< l.length),i< j→yz p long l[i]=false))
 case atStart=>exact ⟨0,by omega,rfl,za ⟨World.grownBy.refl w none,fun i hi h=>absurd h (by omega)⟩⟩
 case round=>
  obtain ⟨j,hj,rfl,HX⟩:=hrel;cases gk with
  |zero=>
   obtain rfl:j=l.length:=by omega
   have HE:Hid (Xm (l.any fun x=>yz p long x) w (.returned (.int .i64 (-1))) wr):=za ⟨-1,rfl,by
    have:(l.any fun x=>yz p long x)=false:=by
     rw [List.any_eq_false];intro b hb;obtain ⟨i,hi,rfl⟩:=List.getElem_of_mem hb;simp [HX.out.2 i hi hi]
    rw [this];rfl,⟨by decide,by decide⟩,HX.out.1⟩
   clear HX;go_wp2;go_ret;exact HE.out
  |succ k=>
   have hjn:(j:Int)< (l.length:Int):=by omega
   have hjN:j< l.length:=by omega
   obtain ⟨g,o,c',u,e,_,_,hcu,hu⟩:=(H.out.kept HX.out.1).atS hjN;injection e with e1 e2 e3
   subst e1 e3;have HC:=za (NO p Bn B long u l[j] X wr HP.out (HBN.out.grown HX.out.1 (by simp)) (HB.out.grown HX.out.1 (by simp)) hu);have HV:Hid (yz p long l[j]=false∨yz p long l[j]=true):=za (by cases yz p long l[j]<;>simp);have HR:Hid (yz p long l[j]=false→ ∀i (h:i< l.length),i< j+1→yz p long l[i]=false):=za (fun h i hi hl=>by
    rcases Nat.lt_or_ge i j with h1|h1
    ·exact HX.out.2 i hi h1
    ·obtain rfl:i=j:=by omega
     exact h)
   have HN:Hid (yz p long l[j]=true→(l.any fun x=>yz p long x)=true):=za (fun h=>List.any_eq_true.2 ⟨_,List.getElem_mem hjN,by simp [h]⟩);obtain ⟨A7,c7,e7,_,_⟩:=hu.form;generalize l[j].length=n7 at e7;subst e7;have HG:=za HX.out.1;clear HX hu e2;generalize yz p long l[j]=b at *;generalize l[j]=x at *;rcases HV.out with rfl|rfl
   ·go_wp2_with fail;refine HC.out.mono ?_;rintro e w1 ⟨rfl,hg⟩;have HG1:=za (HG.out.trans hg);clear hg;go_wp2;go_roundg k
    case measure=>omega
    case rel=>exact ⟨j+1,by omega,by go_num,za ⟨HG1.out,HR.out (by simp)⟩⟩
   ·have HE:Hid (∀w1,w.grownBy w1 none→Xm (l.any fun x=>yz p long x) w (.returned (.int .i64 j)) w1):=za (fun w1 hg=>⟨j,rfl,by rw [HN.out rfl];simp,⟨by omega,by omega⟩,hg⟩);go_wp2_with fail;refine HC.out.mono ?_;rintro e w1 ⟨rfl,hg⟩;have HG1:=za (HG.out.trans hg);clear hg;go_wp2;go_ret;exact HE.out _ HG1.out
theorem VZ(p:Par)(Bn B:Nat)(long:Int)(v:Value)(l:List (List Int))(X:Nat→Prop)(w:World)(hp:p.ok)(hn:Bk w Bn 3 #[.int .i64 long])(hb:Bk w B 39 p.cells)(h:Sl (zh ze) X w v l):
  Calls Tryz.prog 144 #[v, .func (.func 145) #[] #[.pointer (some ⟨Bn,0,none⟩), .pointer (some ⟨B,0,none⟩)]] w fun e w'=>e= .returned (.bool (l.any fun x=>yz p long x))∧w.grownBy w' none:=by
 have HC:=za (RT p Bn B long v l X w hp hn hb h);obtain ⟨A,c,rfl,_,_⟩:=h.form;clear hp hb hn h;go_enter Tryz.func144,Tryz.ntmps144;go_wp2_with fail;refine HC.out.mono ?_;rintro e w1 ⟨r,rfl,hr,_,hg⟩;have HG:=za hg;have HR:=za hr;clear hg hr;go_wp2;go_ret;exact ⟨zm HR.out,HG.out⟩
end
section
open Go Go.RowKit
def zX(p:Par):Int:=wrap64 (p.K*wrap64 (p.D+1))
theorem Vy(p:Par)(w:World):
  Calls Tryz.prog 94 #[p.v] w fun e w'=>e= .returned (.int .i64 (zX p))∧w.grownBy w' none:=by
 go_enter Tryz.func94,Tryz.ntmps94;go_wp2;go_ret;exact ⟨rfl,gAl w _ none⟩
def Kz(p:Par)(l:List (List Int))(many long:Int):Bool:=decide ((l.length:Int)=many) && !l.any fun x=>yz p long x
theorem Kl(p:Par)(v:Value)(l:List (List Int))(many long:Int)(X:Nat→Prop)(w:World)(hp:p.ok)(h:Sl (zh ze) X w v l):
  Calls Tryz.prog 93 #[p.v,v, .int .i64 many, .int .i64 long] w fun e w'=>e= .returned (.bool (Kz p l many long))∧w.grownBy w' none:=by
 have HB:Hid (Bk ((w.alloc (.cells p.cells 39)).alloc (.cells #[.int .i64 long] 3)) w.heap.size 39 p.cells):=za ((Bk.new w _ _).alloc _);have HBN:Hid (Bk ((w.alloc (.cells p.cells 39)).alloc (.cells #[.int .i64 long] 3)) (w.heap.size+1) 3 #[.int .i64 long]):=za (by have:=Bk.new (w.alloc (.cells p.cells 39)) 3 #[.int .i64 long];simpa using this);have HG:Hid (w.grownBy ((w.alloc (.cells p.cells 39)).alloc (.cells #[.int .i64 long] 3)) none):=za ((gAl w _ none).trans (gAl _ _ none));have HC:=za (VZ p (w.heap.size+1) w.heap.size long v l X _ hp HBN.out HB.out (h.kept HG.out));obtain ⟨A,c,rfl,_,_⟩:=h.form;clear hp h HB HBN;by_cases hne:(l.length:Int)=many
 ·have HR:Hid (Kz p l many long= !l.any fun x=>yz p long x):=za (by simp [Kz,hne]);go_enter Tryz.func93,Tryz.ntmps93;go_wp2_with fail;refine HC.out.mono ?_;rintro e w1 ⟨rfl,hg⟩;have HG1:=za (HG.out.trans hg);clear hg;go_wp2;go_ret;exact ⟨zm HR.out.symm,HG1.out⟩
 ·have HR:Hid (Kz p l many long=false):=za (by simp [Kz,hne]);go_enter Tryz.func93,Tryz.ntmps93;go_wp2;go_ret;exact ⟨zm HR.out.symm,HG.out⟩
def Za(p:Par)(l:List (List Int)):Bool:=Kz p l (zX p) (IntKind.i64.wrap (p.T+1))
theorem Xz(p:Par)(v:Value)(l:List (List Int))(X:Nat→Prop)(w:World)(hp:p.ok)(h:Sl (zh ze) X w v l):
  Calls Tryz.prog 42 #[p.v,v] w fun e w'=>e= .returned (.bool (Za p l))∧w.grownBy w' none:=by
 have HP:=za hp;have H:=za h;obtain ⟨A,c,rfl,_,_⟩:=h.form;have HGw:Hid (w.grownBy (w.alloc (.cells p.cells 39)).drew none):=za ((gAl w _ none).trans (zb _ 1));have HBw:Hid (Bk (w.alloc (.cells p.cells 39)).drew w.heap.size 39 p.cells):=za (Bk.new w _ _);clear hp h;go_enter Tryz.func42,Tryz.ntmps42;go_wp2_with fail;go_region_held3 (fun w'=> ∀o,w'.cell? ⟨w.heap.size,o,none⟩=(#[.int .u64 p.P, .int .u64 p.Q, .int .u64 p.G, .int .u64 p.H, .int .i64 p.Nodes, .int .i64 p.N, .int .i64 p.T, .int .i64 p.K, .int .i64 p.D, .int .i64 p.R, .int .i64 p.M, .int .i64 p.X]:Array Value)[o]?) (first|assumption|exact (Bk.new w 39 p.cells).prule|go_keep)
  (first
  |(go_at_call 94;(with_reducible refine (Vy p _).mono ?_);rintro e w1 ⟨rfl,hg⟩;have HG1:=za (HGw.out.trans hg);have HB1:=za (HBw.out.grown hg (by simp));have hpx:=HB1.out.prule;clear hg)
  |(go_at_call 93;(with_reducible refine (Kl p _ l _ _ X _ HP.out (H.out.kept HG1.out)).mono ?_);rintro e w2 ⟨rfl,hg⟩;have HG2:=za (HG1.out.trans hg);have hpy:=(HB1.out.grown hg (by simp)).prule;clear hg))
 go_wp2;go_ret;exact ⟨rfl,HG2.out⟩
end
section
open Go
structure Pv where
 p:Value→World→Prop
 st: ∀{v w w'},p v w→w.grownBy w' none→p v w'
def Pv.any:Pv:=⟨fun _ _=>True,fun _ _=>trivial⟩
def Pv.eq(u:Value):Pv:=⟨fun v _=>v=u,fun h _=>h⟩
def Pv.sl{α:Type}(E:Enc α)(X:Nat→Prop)(xs:List α):Pv:=⟨fun v w=>Sl E X w v xs,fun h hg=>h.kept hg⟩
section
variable {P:Program} {ops:Array Oper} {Q:Exit→Act→World→Prop} {n:Nat} {a0:Act} {w0:World}
def zU(ops:Array Oper)(j:Nat):Option Tmp:=(ops[j]?).bind (·.dst)
def Nh(ops:Array Oper)(n i:Nat)(t:Tmp):Bool:=(List.range n).all fun j=>zU ops j !=some t||Region.waitsFor .any ops j i||j==i
def yh(ops:Array Oper)(i:Nat)(js:List (Nat×Tmp)):Bool:=js.all fun x=>zU ops x.1==some x.2 && Region.waitsFor .any ops i x.1
def zZ(ops:Array Oper)(n i:Nat)(js:List (Nat×Tmp)):Bool:=((ops[i]?).map fun o=>(o.looksAt ops).all fun t=>js.any (·.2==t)||Nh ops n i t).getD false
def yi(V:Pv)(dst:Option Tmp)(ds:List Deferred)(w:World):Exit→Act→World→Prop:=fun e a' w'=>e= .normal∧a'.defers=ds∧V.p (match dst with|some d=>a'.eval (.tmp d)|none=>undef) w'∧w.grownBy w' none
def Ask(P:Program)(ops:Array Oper)(Vs:List Pv)(Qt:Exit→Act→World→Prop)(o:Oper)(w:World):List (Nat×Tmp)→Act→Prop
 | [],a=>wpList P ops Qt [o] a w
 |(j,d)::js,a=> ∀x,(Vs.getD j Pv.any).p x w→Ask P ops Vs Qt o w js (a.put (some d) x)
def QK(P:Program)(ops:Array Oper)(n:Nat)(a0:Act)(w0:World)(F:List Pv→Prop):List Pv→List Oper→Prop
 |Vs, []=>F Vs
 |Vs,o::os=> ∃(V:Pv) (js:List (Nat×Tmp)),(yh ops Vs.length js && zZ ops n Vs.length js)=true∧(∀w,w0.grownBy w none→Ask P ops Vs (yi V o.dst a0.defers w) o w js a0)∧QK P ops n a0 w0 F (Vs++ [V]) os
def Kq(G:Act→World→Prop)(w:World):List Pv→List Oper→Act→Prop
 |V::Vs,o::os,a=> ∀x,V.p x w→Kq G w Vs os (a.put o.dst x)
 |_,_,a=>G a w
def av(ops:Array Oper)(i:Nat):Nat→Nat→Bool
 |0,k=>k !=i
 |f+1,k=>k !=i && ((ops[k]?).map (·.after.all fun e=> !Region.binds .any e||av ops i f e.on)).getD false
def OG(ops:Array Oper)(n:Nat):Bool:=
 (List.range ops.size).all (fun j=>decide (j< n)||(List.range n).all fun i=> !av ops i n j) && Region.seqB .any ops (ops.size - n) n (Array.replicate n true++Array.replicate (ops.size - n) false)
def FH(ops:Array Oper)(n:Nat):Bool:=(List.range n).all fun i=>((ops[i]?).map (·.after.all fun e=> !Region.binds .any e||decide (e.on< i))).getD false
def LK(ops:Array Oper)(n sz:Nat):Bool:=(List.range n).all fun i=>match zU ops i with|none=>true|some d=>decide (d< sz) && (List.range n).all fun j=>j==i||zU ops j !=some d
def ZN(ops:Array Oper)(n sz:Nat):Bool:=Region.noSelect ops && decide (n≤ops.size) && OG ops n && FH ops n && LK ops n sz
theorem Yj(a:Act)(dst:Option Tmp)(v:Value):(a.put dst v).tmps.size=a.tmps.size:=by
 cases dst<;>simp [Act.put]
theorem yC(a:Act)(dst:Option Tmp)(v:Value):(a.put dst v).defers=a.defers:=by
 cases dst<;>rfl
theorem YU(a:Act)(d t:Tmp)(v:Value)(h:d≠t):(a.put (some d) v).tmps[t]? =a.tmps[t]? :=by
 simp [Act.put,Array.getElem?_setIfInBounds_ne h]
theorem Yd(a b:Act)(t:Tmp)(h:a.tmps[t]? =b.tmps[t]?):a.eval (.tmp t)=b.eval (.tmp t):=by
 simp [Act.eval,Array.getD_eq_getD_getElem?,h]
theorem He(a b:Act)(t:Tmp)(hs:a.tmps.size=b.tmps.size):(a.put (some t) (b.eval (.tmp t))).tmps[t]? =b.tmps[t]? :=by
 by_cases h:t< a.tmps.size
 ·have h':t< b.tmps.size:=hs ▸ h;simp [Act.put,Act.eval,Array.getD_eq_getD_getElem?,h,h']
 ·have h': ¬t< b.tmps.size:=hs ▸ h;simp [Act.put,h,h']
def QI(b:Act)(ds:List (Option Tmp))(a:Act):Act:=ds.foldl (fun a d=>a.put d (match d with|some d=>b.eval (.tmp d)|none=>undef)) a
theorem Zw(b:Act): ∀(ds:List (Option Tmp)) (a:Act),(QI b ds a).tmps.size=a.tmps.size
 | [],_=>rfl
 |_::ds,_=>(Zw b ds _).trans (Yj _ _ _)
theorem ye(b:Act): ∀(ds:List (Option Tmp)) (a:Act),(QI b ds a).defers=a.defers
 | [],_=>rfl
 |_::ds,_=>(ye b ds _).trans (yC _ _ _)
theorem xZ(b:Act)(t:Tmp): ∀(ds:List (Option Tmp)) (a:Act),a.tmps.size=b.tmps.size→(some t∈ds∨a.tmps[t]? =b.tmps[t]?)→(QI b ds a).tmps[t]? =b.tmps[t]?
 | [],a,_,h=>h.resolve_left (by simp)
 |d::ds,a,hs,h=>by
  refine xZ b t ds _ ((Yj _ _ _).trans hs) ?_;cases d with
  |none=>exact h.imp (fun h=>by simpa using h) id
  |some d=>
   by_cases e:d=t
   ·subst e;exact .inr (He a b d hs)
   ·refine h.imp (fun h=> ?_) (fun h=>(YU a d t _ e).trans h);rcases List.mem_cons.1 h with h|h
    ·injection h with h;exact absurd h.symm e
    ·exact h
theorem Uj{a b:Act}(h: ∀t:Nat,a.tmps[t]? =b.tmps[t]?)(hd:a.defers=b.defers):a=b:=by
 obtain ⟨t1,d1⟩:=a;obtain ⟨t2,d2⟩:=b;obtain rfl:d1=d2:=hd;obtain rfl:t1=t2:=Array.ext_getElem? h;rfl
theorem Ask.all{Vs:List Pv}{Qt:Exit→Act→World→Prop}{o:Oper}{w:World}{b:Act}: ∀{js:List (Nat×Tmp)} {a:Act},(∀x:Nat×Tmp,x∈js→(Vs.getD x.1 Pv.any).p (b.eval (.tmp x.2)) w)→Ask P ops Vs Qt o w js a→wpList P ops Qt [o] (QI b (js.map fun x=>some x.2) a) w
 | [],_,_,h=>h
 |(j,d)::js,a,hx,h=>Ask.all (js:=js) (fun x hm=>hx x (List.mem_cons_of_mem _ hm)) (h _ (hx (j,d) (by simp)))
theorem Kq.all{G:Act→World→Prop}{w:World}{b:Act}: ∀{Vs:List Pv} {os:List Oper} {a:Act},Vs.length=os.length→(∀(k:Nat) (V:Pv) (o:Oper),Vs[k]? =some V→os[k]? =some o→V.p (match o.dst with|some d=>b.eval (.tmp d)|none=>undef) w)→Kq G w Vs os a→G (QI b (os.map (·.dst)) a) w
 | [], [],_,_,_,h=>h
 |V::Vs,o::os,a,hl,hx,h=>Kq.all (Vs:=Vs) (os:=os) (by simpa using hl) (fun k V o hv ho=>hx (k+1) V o (by simpa using hv) (by simpa using ho)) (h _ (hx 0 V o rfl rfl))
 | [],_::_,_,hl,_,_=>by simp at hl
 |_::_, [],_,hl,_,_=>by simp at hl
theorem QK.out{F:List Pv→Prop}: ∀{os:List Oper} {Vs:List Pv},QK P ops n a0 w0 F Vs os→ ∃Ws:List Pv,Ws.length=os.length∧F (Vs++Ws)∧ ∀k o,os[k]? =some o→ ∃V js,Ws[k]? =some V∧(yh ops (Vs.length+k) js && zZ ops n (Vs.length+k) js)=true∧ ∀w,w0.grownBy w none→Ask P ops ((Vs++Ws).take (Vs.length+k)) (yi V o.dst a0.defers w) o w js a0
 | [],Vs,h=>⟨[],rfl,by rw [List.append_nil];exact h,fun k o hk=>by simp at hk⟩
 |o::os,Vs,⟨V,js,hb,hA,hM⟩=>by
  obtain ⟨Ws,hl,hF,hk⟩:=QK.out hM;refine ⟨V::Ws,by simp [hl],by simpa using hF,fun k o' ho=> ?_⟩;cases k with
  |zero=>
   obtain rfl:o=o':=by simpa using ho
   exact ⟨V,js,rfl,hb,fun w hw=>by simpa using hA w hw⟩
  |succ k=>
   obtain ⟨V',js',h1,h2,h3⟩:=hk k o' (by simpa using ho);refine ⟨V',js',by simpa using h1, ?_,fun w hw=> ?_⟩
   ·simpa [Nat.add_assoc,Nat.add_comm 1 k] using h2
   ·have:=h3 w hw
    simpa [Nat.add_assoc,Nat.add_comm 1 k] using this
theorem QK.weak{F G:List Pv→Prop}: ∀{os:List Oper} {Vs:List Pv},QK P ops n a0 w0 F Vs os→(∀Ws,Ws.length=Vs.length+os.length→F Ws→G Ws)→QK P ops n a0 w0 G Vs os
 | [],Vs,h,hg=>hg Vs (by simp) h
 |o::os,Vs,⟨V,js,hb,hA,hM⟩,hg=>⟨V,js,hb,hA,QK.weak hM fun Ws hW=>hg Ws (by simp at hW ⊢;omega)⟩
def Tc(dst:Option Tmp)(a:Act):Value:=match dst with|some d=>a.eval (.tmp d)|none=>undef
structure FF (ops:Array Oper) (n:Nat) (a0:Act) (w0:World) (Vs:List Pv) (D:Array Bool) (a:Act) (w:World):Prop where
 head:HeadInv .any ops n D
 grown:w0.grownBy w none
 tsize:a.tmps.size=a0.tmps.size
 defers:a.defers=a0.defers
 rest: ∀t,(∀j,j< n→D.getD j false=true→zU ops j≠some t)→a.tmps[t]? =a0.tmps[t]?
 known: ∀j V,D.getD j false=true→Vs[j]? =some V→V.p (Tc (zU ops j) a) w
def cnt(D:Array Bool):Nat→Nat
 |0=>0
 |k+1=>cnt D k+if D.getD k false then 0 else 1
theorem XF{D:Array Bool}{i:Nat}: ∀k,(k≤i→cnt (D.setIfInBounds i true) k=cnt D k)∧(i< k→D.getD i true=false→cnt (D.setIfInBounds i true) k+1=cnt D k)
 |0=>⟨fun _=>rfl,fun h=>by omega⟩
 |k+1=>by
  obtain ⟨h1,h2⟩:=XF (D:=D) (i:=i) k;refine ⟨fun h=> ?_,fun h hf=> ?_⟩
  ·simp only [cnt];rw [h1 (by omega),getD_set_ne false (by omega)]
  ·simp only [cnt];by_cases e:i=k
   ·subst e;have hlt:i< D.size:=by
     rcases Nat.lt_or_ge i D.size with h'|h'
     ·exact h'
     ·simp [Array.getElem?_eq_none h'] at hf
    rw [h1 (Nat.le_refl _),getD_both hf];simp [hlt]
   ·have:=h2 (by omega) hf
    rw [getD_set_ne false e];omega
theorem xe{D:Array Bool}: ∀{k},cnt D k=0→ ∀i,i< k→D.getD i false=true
 |0,_,i,h=>by omega
 |k+1,h,i,hi=>by
  simp only [cnt] at h;by_cases e:i=k
  ·subst e;by_cases hd:D.getD i false=true
   ·exact hd
   ·simp [hd] at h
  ·exact xe (k:=k) (by omega) i (by omega)
theorem ZB(m:Nat): ∀k,cnt (Array.replicate m false) k=k
 |0=>rfl
 |k+1=>by simp only [cnt,ZB m k,getD_replicate_false];rfl
theorem Qp{D:Array Bool}{i:Nat}(hcl: ∀j oj,ops[j]? =some oj→D.getD j false=true→ ∀e∈oj.after,Region.binds .any e=true→D.getD e.on false=true)(hsz:D.size=ops.size)(hi:D.getD i false=false): ∀f k,D.getD k false=true→av ops i f k=true
 |0,k,hk=>by
  simp only [av,bne_iff_ne];rintro rfl;rw [hi] at hk;cases hk
 |f+1,k,hk=>by
  have hlt:k< ops.size:=by
   rcases Nat.lt_or_ge k D.size with h'|h'
   ·omega
   ·simp [Array.getElem?_eq_none h'] at hk
  have ho:ops[k]? =some ops[k]:=Array.getElem?_eq_getElem hlt;simp only [av,ho,Option.map_some,Option.getD_some,Bool.and_eq_true,bne_iff_ne];refine ⟨?_, ?_⟩
  ·rintro rfl;rw [hi] at hk;cases hk
  ·rw [Array.all_eq_true_iff_forall_mem];intro e he;by_cases hb:Region.binds .any e=true
   ·simp [hb,Qp hcl hsz hi f e.on (hcl k _ ho hk e he hb)]
   ·simp [hb]
theorem zg{n:Nat}{p:Nat→Bool}(h:(List.range n).all p=true){i:Nat}(hi:i< n):p i=true:=List.all_eq_true.1 h i (List.mem_range.2 hi)
theorem Pj(dst:Option Tmp)(a:Act):(match dst with|some d=>a.eval (.tmp d)|none=>undef)=Tc dst a:=by cases dst<;>rfl
theorem XM{V:Pv}{dst:Option Tmp}{ds:List Deferred}{w:World}: ¬LetsOut (yi V dst ds w):=by
 rintro ⟨a,w',e,_⟩;cases e
theorem Ml{V:Pv}{o:Oper}{a b:Act}{w:World}(hs: ∀cs b,o.op≠ .select cs b)(hd: ∀d,o.dst=some d→d< a.tmps.size)(hsz:b.tmps.size=a.tmps.size)(hlook: ∀t∈o.looksAt ops,b.tmps[t]? =a.tmps[t]?){i:Nat}(hi:ops[i]? =some o)
  (hdf:b.defers=a0.defers) (h:wpList P ops (yi V o.dst a0.defers w) [o] b w):wpOp P ops Q i (fun a' w'=> ∃v,a'=a.put o.dst v∧V.p (match o.dst with|some _=>v|none=>undef) w'∧w.grownBy w' none) a w:=by
 have hex:execOp b.eval o=execOp a.eval o:=execOp_congr o hs fun x hx=>by
  cases x with
  |tmp t=>exact Yd _ _ _ (hlook t (List.mem_append_left _ (List.mem_filterMap.2 ⟨.tmp t,by simpa using hx,rfl⟩)))
  |_=>rfl
 have hwn:Region.wanted o (yielded ops b.tmps)=Region.wanted o (yielded ops a.tmps):=by
  unfold Region.wanted;cases hg:o.guard with
  |none=>rfl
  |some gw=>
   obtain ⟨g,want⟩:=gw;have hy:yielded ops b.tmps g=yielded ops a.tmps g:=by
    unfold yielded;cases ht:(ops[g]?).bind (·.dst) with
    |none=>rfl
    |some t=>simp only [Option.bind_some,hlook t (by simp [Oper.looksAt,hg,ht])]
   simp only [hy]
 have fin: ∀v w',yi V o.dst a0.defers w .normal (b.put o.dst v) w'→ ∃v',a.put o.dst v=a.put o.dst v'∧V.p (match o.dst with|some _=>v'|none=>undef) w'∧w.grownBy w' none:=by
  rintro v w' ⟨_,_,h1,h2⟩;refine ⟨v,rfl, ?_,h2⟩;cases hdd:o.dst with
  |none=>rw [hdd] at h1;exact h1
  |some d=>
   rw [hdd] at h1;have hlt:=hd d hdd
   have:(b.put (some d) v).eval (.tmp d)=v:=by simp [Act.put,Act.eval,Array.getD_eq_getD_getElem?,hsz,hlt]
   simp only [this] at h1;exact h1
 unfold wpOp;simp only [hi];simp only [wpList,hwn] at h;split
 ·rename_i hw;rw [if_pos hw] at h;rcases h with h|h
  ·left;unfold Oper.wp at h ⊢;rw [hex] at h;generalize (execOp a.eval o).run P w=r at *;cases r with
   |ok x w'=>
    cases x with
    |value v=>exact fin v w' h
    |skip=>exact fin undef w' h
    |enter f args=>
     refine Calls.mono h fun e w'' he=> ?_
     cases e with
     |returned u=>exact fin u w'' he
     |panicked c=>exact absurd he.1 (by simp)
     |outgrown=>exact absurd he XM
    |row row args=>exact Rows.mono h fun u w'' he=>fin u w'' he
    |defer d=>
     obtain ⟨_,h1,_⟩:=h;have h1:(Act.put {b with defers:=d::b.defers} o.dst undef).defers=a0.defers:=h1;rw [yC, ←hdf] at h1;exact absurd (congrArg List.length h1) (by simp)
    |_=>exact h.elim
   |halt x w'=>
    cases x with
    |panic v=>exact absurd h.1 (by simp)
    |_=>exact h.elim
  ·exact absurd h.2 XM
 ·rename_i hw;rw [if_neg hw] at h;exact fin undef w h
theorem RJ{Vs:List Pv}{D:Array Bool}{a a':Act}{w w':World}{i:Nat}{o:Oper}{V:Pv}{v:Value}(inv:FF ops n a0 w0 Vs D a w)(hd:LK ops n a0.tmps.size=true)(hi:i∈Region.ready .any ops D)(hin:i< n)(ho:ops[i]? =some o)(hV:Vs[i]? =some V)(hnl:Vs.length≤n)
  (ha:a'=a.put o.dst v) (hv:V.p (match o.dst with|some _=>v|none=>undef) w') (hg:w.grownBy w' none):FF ops n a0 w0 Vs (D.setIfInBounds i true) a' w':=by
 subst ha;have hdi:zU ops i=o.dst:=by simp [zU,ho]
 have hun:D.getD i true=false:=(mem_ready.1 hi).1;have hlt:i< D.size:=by
  rcases Nat.lt_or_ge i D.size with h'|h'
  ·exact h'
  ·simp [Array.getElem?_eq_none h'] at hun
 refine ⟨inv.head.set hi hin,inv.grown.trans hg,(Yj _ _ _).trans inv.tsize,(yC _ _ _).trans inv.defers,fun t ht=> ?_,fun j W hj hW=> ?_⟩
 ·have h1:o.dst≠some t:=fun e=>ht i hin (by simp [hlt]) (hdi.trans e)
  refine Eq.trans ?_ (inv.rest t fun j hj hD=>ht j hj (getD_set_true hD));cases hdd:o.dst with
  |none=>rfl
  |some d=>exact YU _ _ _ _ (fun e=>h1 (by rw [hdd,e]))
 ·by_cases e:i=j
  ·subst e;obtain rfl:V=W:=Option.some.inj (hV.symm.trans hW);rw [hdi];cases hdd:o.dst with
   |none=>rw [hdd] at hv;exact hv
   |some d=>
    rw [hdd] at hv;have hds:=zg hd hin;rw [hdi,hdd] at hds;simp only [Bool.and_eq_true,decide_eq_true_eq] at hds
    have:(a.put (some d) v).eval (.tmp d)=v:=by simp [Act.put,Act.eval,Array.getD_eq_getD_getElem?,inv.tsize,hds.1]
    show V.p ((a.put (some d) v).eval (.tmp d)) w';rw [this];exact hv
  ·have hjn:j< n:=by have:=(List.getElem?_eq_some_iff.1 hW).1;omega
   rw [getD_set_ne false e] at hj;have h1:=W.st (inv.known j W hj hW) hg;cases hdj:zU ops j with
   |none=>rw [hdj] at h1;exact h1
   |some dj=>
    rw [hdj] at h1;have h1:W.p (a.eval (.tmp dj)) w':=h1;show W.p ((a.put o.dst v).eval (.tmp dj)) w';cases hdd:o.dst with
    |none=>exact h1
    |some d=>
     have hds:=zg hd hin;rw [hdi,hdd] at hds;simp only [Bool.and_eq_true,decide_eq_true_eq] at hds;have h2:=zg hds.2 hjn;simp only [Bool.or_eq_true,beq_iff_eq,bne_iff_ne,ne_eq] at h2;have h3:d≠dj:=fun e'=>(h2.resolve_left (fun e2=>e e2.symm)) (by rw [hdj,e'])
     rw [Yd _ a dj (YU a d dj v h3)];exact h1
theorem OA{l:List Oper}(n:Nat)(hB:ZN l.toArray n a0.tmps.size=true)
  (h:QK P l.toArray n a0 w0 (fun Vs=> ∀w,w0.grownBy w none→Kq (fun a w=>wpList P l.toArray Q (l.drop n) a w) w Vs (l.take n) a0) [] (l.take n)):wpAny P .any l.toArray Q l.toArray.size (Array.replicate l.toArray.size false) a0 w0:=by
 simp only [ZN,Bool.and_eq_true,decide_eq_true_eq] at hB;obtain ⟨⟨⟨⟨hsel,hn⟩,htail⟩,htopo⟩,hdist⟩:=hB;simp only [OG,Bool.and_eq_true] at htail;obtain ⟨hblk,hseq⟩:=htail;obtain ⟨Vs,hVl,hF,hO⟩:=QK.out h;rw [List.nil_append] at hF;simp only [List.nil_append,List.length_nil,Nat.zero_add] at hO;have hnl:n≤l.length:=by simpa using hn
 have htl:(l.take n).length=n:=by simp;omega
 have hVn:Vs.length=n:=hVl.trans htl;have hdl:(l.drop n).length=l.toArray.size - n:=by simp
 have hnext: ∀i o,i< n→l.toArray[i]? =some o→(l.take n)[i]? =some o:=fun i o hi ho=>by
  rw [List.getElem?_take,if_pos hi];simpa using ho
 have key: ∀m D a w,FF l.toArray n a0 w0 Vs D a w→cnt D n=m→wpAny P .any l.toArray Q (m+(l.toArray.size - n)) D a w:=by
  intro m;induction m with
  |zero=>
   intro D a w inv hc;have hall:=xe hc;have hD:D=Array.replicate n true++Array.replicate (l.toArray.size - n) false:=by
    have hsz:=inv.head.size;refine Array.ext (by simp [hsz];omega) fun i h1 h2=> ?_
    rw [Array.getElem_append];by_cases hi:i< n
    ·have:=hall i hi
     simp [h1] at this;simp [hi,this]
    ·have:=inv.head.tail i (by omega) (by omega)
     simp [h1] at this;simp [hi,this]
   have hk: ∀(k:Nat) (V:Pv) (o:Oper),Vs[k]? =some V→(l.take n)[k]? =some o→V.p (match o.dst with|some d=>a.eval (.tmp d)|none=>undef) w:=by
    intro k V o hv ho;have hkn:k< n:=by have:=(List.getElem?_eq_some_iff.1 hv).1;omega
    have h1:=inv.known k V (hall k hkn) hv;have h2:zU l.toArray k=o.dst:=by
     have:l[k]? =some o:=by rw [List.getElem?_take,if_pos hkn] at ho;exact ho
     simp [zU,this]
    rw [h2] at h1;rw [Pj];exact h1
   have hfin:=Kq.all hVl hk (hF w inv.grown);have hon:QI a ((l.take n).map (·.dst)) a0=a:=by
    refine Uj (fun t=>xZ a t _ _ inv.tsize.symm ?_) ((ye _ _ _).trans inv.defers.symm);by_cases ht:some t∈(l.take n).map (·.dst)
    ·exact .inl ht
    ·refine .inr (inv.rest t fun j hj _ e=>ht ?_).symm;have hjl:j< l.length:=by omega
     have:l[j].dst=some t:=by simpa [zU,hjl] using e
     exact List.mem_map.2 ⟨l[j],List.mem_iff_getElem?.2 ⟨j,by rw [List.getElem?_take,if_pos hj,List.getElem?_eq_getElem hjl]⟩,this⟩
   rw [hon] at hfin
   have:=wpAny_of_seq (md:= .any) (Q':=Q) (l.drop n) n D a w (fun j=>by simp [List.getElem?_drop]) (by rw [hdl,hD];exact hseq) hfin
   rw [hdl] at this
   rwa [Nat.zero_add]
  |succ m ih=>
   intro D a w inv hc;have hready: ∀i∈Region.ready .any l.toArray D,i< n:=by
    intro i hi;rcases Nat.lt_or_ge i n with h'|h'
    ·exact h'
    ·obtain ⟨hu,oi,hoi,hall⟩:=mem_ready.1 hi;have hlt:i< l.toArray.size:=(Array.getElem?_eq_some_iff.1 hoi).1;exfalso;obtain ⟨k,hk,hkd⟩: ∃k,k< n∧D.getD k false=false:=by
      refine Classical.byContradiction fun hno=> ?_
      have: ∀k,k≤n→cnt D k=0:=by
       intro k;induction k with
       |zero=>intro _;rfl
       |succ k ihk=>
        intro hk;have h1:D.getD k false=true:=by
         refine Classical.byContradiction fun hx=>hno ⟨k,by omega,by simpa using hx⟩
        simp only [cnt,h1,ihk (by omega)];rfl
      rw [this n (Nat.le_refl _)] at hc;omega
     have hb:=zg hblk hlt;simp only [Bool.or_eq_true,decide_eq_true_eq] at hb;have hb:=zg (hb.resolve_left (by omega)) hk;simp only [Bool.not_eq_true'] at hb;have hik:i≠k:=by omega
     have:av l.toArray k n i=true:=by
      have hav:=fun f j hj=>Qp (ops:=l.toArray) inv.head.closed inv.head.size hkd f j hj
      cases hn0:n with
      |zero=>simp [av,hik]
      |succ f=>
       simp only [av,hoi,Option.map_some,Option.getD_some,Bool.and_eq_true,bne_iff_ne];refine ⟨hik, ?_⟩;rw [Array.all_eq_true_iff_forall_mem];intro e he;by_cases hbd:Region.binds .any e=true
       ·simp [hbd,hav f e.on (hall e he hbd)]
       ·simp [hbd]
     rw [hb] at this;cases this
   have hne:Region.ready .any l.toArray D≠ []:=by
    have hex: ∃k,k< n∧D.getD k false=false∧ ∀j,j< k→D.getD j false=true:=by
     have: ∀k,k≤n→(∃q,q< k∧D.getD q false=false∧ ∀j,j< q→D.getD j false=true)∨(cnt D k=0):=by
      intro k;induction k with
      |zero=>intro _;exact .inr rfl
      |succ k ihk=>
       intro hk;rcases ihk (by omega) with ⟨q,h1,h2⟩|h0
       ·exact .inl ⟨q,by omega,h2⟩
       ·cases hq:D.getD k false with
        |true=>right;simp only [cnt,hq,h0];rfl
        |false=>exact .inl ⟨k,by omega,hq,xe h0⟩
     rcases this n (Nat.le_refl _) with ⟨q,h1,h2⟩|h0
     ·exact ⟨q,h1,h2⟩
     ·omega
    obtain ⟨k,hk,hkd,hbel⟩:=hex;have hkl:k< l.toArray.size:=by omega
    have ho:l.toArray[k]? =some l.toArray[k]:=Array.getElem?_eq_getElem hkl
    have:k∈Region.ready .any l.toArray D:=by
     refine mem_ready.2 ⟨getD_in (by rw [inv.head.size];exact hkl) hkd,_,ho,fun e he hb=>hbel _ ?_⟩;have ht:=zg htopo hk;simp only [ho,Option.map_some,Option.getD_some] at ht
     have:=Array.all_eq_true_iff_forall_mem.1 ht e he
     simpa [hb] using this
    intro e;rw [e] at this;cases this
   rw [show m+1+(l.toArray.size - n)=(m+(l.toArray.size - n))+1 by omega];refine ⟨fun e=>absurd e hne,fun i hi=> ?_⟩;have hin:=hready i hi;obtain ⟨hu,o,ho,hall⟩:=mem_ready.1 hi;obtain ⟨V,js,hV,hchk,hask⟩:=hO i o (hnext i o hin ho);simp only [Bool.and_eq_true] at hchk;obtain ⟨hpair,hlook⟩:=hchk;have hdst: ∀d,o.dst=some d→d< a.tmps.size:=by
    intro d hd
    have:=zg hdist hin
    have h2:zU l.toArray i=some d:=by simp only [zU,ho];exact hd
    rw [h2] at this;simp only [Bool.and_eq_true,decide_eq_true_eq] at this;rw [inv.tsize];exact this.1
   have hjs: ∀x:Nat×Tmp,x∈js→zU l.toArray x.1=some x.2∧D.getD x.1 false=true∧x.1< i:=by
    intro x hx
    have:=List.all_eq_true.1 hpair x hx
    simp only [Bool.and_eq_true,beq_iff_eq] at this;obtain ⟨oj,hoj,e,he,hb,hon⟩:=Region.waitsFor_spec this.2;obtain rfl:o=oj:=Option.some.inj (ho.symm.trans hoj);have ht:=zg htopo hin;simp only [ho,Option.map_some,Option.getD_some] at ht;have ht:=Array.all_eq_true_iff_forall_mem.1 ht e he;simp only [hb,Bool.not_true,Bool.false_or,decide_eq_true_eq] at ht;exact ⟨this.1,by rw [←hon];exact hall e he hb,by rw [←hon];exact ht⟩
   have hA:=hask w inv.grown;have hW:=Ask.all (b:=a) (fun x hx=>by
    obtain ⟨h1,h2,h3⟩:=hjs x hx;have hxl:x.1< Vs.length:=by omega
    have h4:Vs[x.1]? =some Vs[x.1]:=List.getElem?_eq_getElem hxl;have h5:=inv.known x.1 _ h2 h4;rw [h1] at h5
    have:(Vs.take i).getD x.1 Pv.any=Vs[x.1]:=by
     rw [List.getD_eq_getElem?_getD,List.getElem?_take,if_pos h3,h4];rfl
    rw [this];exact h5) hA
   have hop:=Ml (Q:=Q) (ops:=l.toArray) (a0:=a0) (a:=a) (Region.noSelect_spec hsel i o · · ho) hdst ((Zw _ _ _).trans inv.tsize.symm) (fun t ht=>by
    refine xZ a t _ _ inv.tsize.symm ?_;have h1:(o.looksAt l.toArray).all (fun t=>js.any (·.2==t)||Nh l.toArray n i t)=true:=by
     simpa only [zZ,ho,Option.map_some,Option.getD_some] using hlook
    have h2:=List.all_eq_true.1 h1 t ht;simp only [Bool.or_eq_true] at h2;rcases h2 with h2|h2
    ·left;obtain ⟨x,hx,hxt⟩:=List.any_eq_true.1 h2;exact List.mem_map.2 ⟨x,hx,by rw [beq_iff_eq.1 hxt]⟩
    ·right;refine (inv.rest t fun j hj hD e=> ?_).symm;have h3:=zg h2 hj;simp only [Bool.or_eq_true,bne_iff_ne,ne_eq,beq_iff_eq] at h3;rcases h3 with (h3|h3)|h3
     ·exact h3 e
     ·obtain ⟨oj,hoj,e',he',hb',hon⟩:=Region.waitsFor_spec h3
      have:=inv.head.closed j oj hoj hD e' he' hb'
      rw [hon,getD_both hu] at this;cases this
     ·subst h3;rw [getD_both hu] at hD;cases hD) ho (ye _ _ _) hW
   refine wpOp_mono (fun a' w' hk=> ?_) hop;obtain ⟨v,ha,hv,hg⟩:=hk;exact ih _ a' w' (RJ inv hdist hi hin ho hV (by omega) ha hv hg) (by have:=(XF (D:=D) (i:=i) n).2 hin hu;omega)
 have h0:=key n (Array.replicate l.toArray.size false) a0 w0 ⟨⟨by simp,(fun j oj _ hD=>by rw [getD_replicate_false] at hD;cases hD),fun t _ ht=>by simp only [List.size_toArray] at ht ⊢;simp [ht]⟩,World.grownBy.refl w0 none,rfl,rfl,fun _ _=>rfl,(fun j V hD=>by rw [getD_replicate_false] at hD;cases hD)⟩ (ZB _ n)
 rwa [show n+(l.toArray.size - n)=l.toArray.size by omega] at h0
theorem zq{V:Pv}{ds:List Deferred}{o:Oper}{a:Act}{w:World}(hw:Region.wanted o (yielded ops a.tmps)=true)
  (h: ∀K:Act→World→Prop,(∀a' w',a'.defers=ds→V.p (match o.dst with|some d=>a'.eval (.tmp d)|none=>undef) w'→w.grownBy w' none→K a' w')→o.wp P a w K (yi V o.dst ds w)):wpList P ops (yi V o.dst ds w) [o] a w:=by
 unfold wpList;rw [if_pos hw];exact .inl (h _ fun a' w' h1 h2 h3=>⟨rfl,h1,h2,h3⟩)
theorem zc{V:Pv}{ds:List Deferred}{o:Oper}{a:Act}{w:World}(hw:Region.wanted o (yielded ops a.tmps)=false)(h1:(a.put o.dst undef).defers=ds)(h2:V.p (match o.dst with|some d=>(a.put o.dst undef).eval (.tmp d)|none=>undef) w):wpList P ops (yi V o.dst ds w) [o] a w:=by
 unfold wpList;rw [if_neg (by rw [hw];simp)];exact ⟨rfl,h1,h2,World.grownBy.refl w none⟩
def TU(P:Program)(ops:Array Oper)(n:Nat)(a0:Act)(w0:World)(F:List Pv→List Oper→Prop):Nat→List Pv→List Oper→Prop
 |0,Vs,os=>F Vs os
 |_+1,_, []=>False
 |k+1,Vs,o::os=> ∃(V:Pv) (js:List (Nat×Tmp)),(yh ops Vs.length js && zZ ops n Vs.length js)=true∧(∀w,w0.grownBy w none→Ask P ops Vs (yi V o.dst a0.defers w) o w js a0)∧TU P ops n a0 w0 F k (Vs++ [V]) os
def Ko(P:Program)(ops:Array Oper)(Q:Exit→Act→World→Prop)(w:World):List Pv→List Oper→Act→Prop
 |V::Vs,o::os,a=> ∀x,V.p x w→Ko P ops Q w Vs os (a.put o.dst x)
 |_,os,a=>wpList P ops Q os a w
theorem Ko.cut{w:World}: ∀{Vs:List Pv} {os:List Oper} {a:Act},Vs.length≤os.length→Ko P ops Q w Vs os a→Kq (fun a w=>wpList P ops Q (os.drop Vs.length) a w) w Vs (os.take Vs.length) a
 | [],os,a,_,h=>by
  have h:wpList P ops Q os a w:=by cases os<;>exact h
  exact h
 |V::Vs, [],a,hl,_=>by simp at hl
 |V::Vs,o::os,a,hl,h=>fun x hx=>Ko.cut (Vs:=Vs) (os:=os) (by simpa using hl) (h x hx)
theorem TU.cut{F:List Pv→List Oper→Prop}: ∀{k:Nat} {Vs:List Pv} {os:List Oper},TU P ops n a0 w0 F k Vs os→QK P ops n a0 w0 (fun Ws=>F Ws (os.drop k)) Vs (os.take k)∧k≤os.length
 |0,Vs,os,h=>⟨by cases os<;>exact h,Nat.zero_le _⟩
 |k+1,Vs, [],h=>h.elim
 |k+1,Vs,o::os,⟨V,js,hc,hA,h⟩=>⟨⟨V,js,hc,hA,(TU.cut h).1⟩,by simpa using (TU.cut h).2⟩
theorem QO{l:List Oper}(n:Nat)(hB:ZN l.toArray n a0.tmps.size=true)
  (h:TU P l.toArray n a0 w0 (fun Vs _=> ∀w,w0.grownBy w none→Ko P l.toArray Q w Vs l a0) n [] l):wpAny P .any l.toArray Q l.toArray.size (Array.replicate l.toArray.size false) a0 w0:=by
 obtain ⟨hM,hn⟩:=TU.cut h;obtain ⟨Vs,hVl,hF,hO⟩:=QK.out hM;have hVn:Vs.length=n:=by rw [hVl];simp;omega
 refine OA n hB (QK.weak hM fun Ws hW hF w hw=> ?_)
 have:=Ko.cut (by rw [hW];simp;omega) (hF w hw)
 rw [show Ws.length=n by rw [hW];simp;omega] at this;exact this
def zn(P:Program)(ops:Array Oper)(n:Nat)(a0:Act)(w0:World)(F:List Pv→Prop):Nat→List Pv→List Oper→Prop
 |0,Rs,_=>F Rs.reverse
 |_+1,_, []=>False
 |k+1,Rs,o::os=> ∃(V:Pv) (js:List (Nat×Tmp)),(yh ops Rs.length js && zZ ops n Rs.length js)=true∧(∀w,w0.grownBy w none→Ask P ops Rs.reverse (yi V o.dst a0.defers w) o w js a0)∧zn P ops n a0 w0 F k (V::Rs) os
theorem zn.step{F:List Pv→Prop}{k:Nat}{Rs:List Pv}{o:Oper}{os:List Oper}(V:Pv)(js:List (Nat×Tmp))(hc:(yh ops Rs.length js && zZ ops n Rs.length js)=true)(hA: ∀w,w0.grownBy w none→Ask P ops Rs.reverse (yi V o.dst a0.defers w) o w js a0)(h:zn P ops n a0 w0 F k (V::Rs) os):zn P ops n a0 w0 F (k+1) Rs (o::os):=⟨V,js,hc,hA,h⟩
theorem zn.up{F:List Pv→Prop}: ∀{k:Nat} {Rs:List Pv} {os:List Oper},zn P ops n a0 w0 F k Rs os→TU P ops n a0 w0 (fun Vs _=>F Vs) k Rs.reverse os
 |0,_,_,h=>h
 |_+1,_, [],h=>h.elim
 |k+1,Rs,o::os,⟨V,js,hc,hA,h⟩=>⟨V,js,by rw [List.length_reverse];exact hc,hA,by have:=zn.up h;rwa [List.reverse_cons] at this⟩
theorem Vo{l:List Oper}(n:Nat)(hB:ZN l.toArray n a0.tmps.size=true)
  (h:zn P l.toArray n a0 w0 (fun Vs=> ∀w,w0.grownBy w none→Ko P l.toArray Q w Vs l a0) n [] l):wpAny P .any l.toArray Q l.toArray.size (Array.replicate l.toArray.size false) a0 w0:=
 QO n hB (zn.up h)
theorem Un{l:List Oper}{id:Nat}(n:Nat)(hm:P.follows .mixedOrders=true)(hB:ZN l.toArray n a0.tmps.size=true)
  (h:zn P l.toArray n a0 w0.drew (fun Vs=> ∀w,w0.drew.grownBy w none→Ko P l.toArray Q w Vs l a0) n [] l):(Code.region id l.toArray true).wp P Q a0 w0:=
 wp_region_any hm (Vo n hB h)
end
def TT:Nat→Prop:=fun _=>True
def Iz{α:Type}(E:Enc α)(w:World):List (List Value)→List α→Prop
 | [], []=>True
 |c::cs,x::xs=>E.rep TT w c x∧Iz E w cs xs
 |_,_=>False
theorem Iz.out{α:Type}{E:Enc α}{w:World}: ∀{css:List (List Value)} {xs:List α},Iz E w css xs→css.length=xs.length∧ ∀i (h:i< xs.length) (h':i< css.length),E.rep TT w css[i] xs[i]
 | [], [],_=>⟨rfl,fun i h=>by simp at h⟩
 |c::cs,x::xs,⟨h1,h2⟩=>by
  obtain ⟨k1,k2⟩:=Iz.out h2;refine ⟨by simp [k1],fun i h h'=> ?_⟩;cases i with
  |zero=>exact h1
  |succ i=>exact k2 i (by simpa using h) (by simpa using h')
theorem Iz.kept{α:Type}{E:Enc α}{w w':World}(hg:w.grownBy w' none): ∀{css:List (List Value)} {xs:List α},Iz E w css xs→Iz E w' css xs
 | [], [],_=>trivial
 |_::_,_::_,⟨h1,h2⟩=>⟨E.keep h1 hg (by simp),Iz.kept hg h2⟩
theorem Sl.build{α:Type}{E:Enc α}{w:World}{t:TypeId}{cs:Array Value}{xs:List α}{n:Nat}(css:List (List Value))(hn:xs.length=n)(hr:Iz E w css xs)(hc:cs.toList=css.flatten)(hb:n≤9223372036854775807):Sl E TT (w.alloc (.cells cs t)) (.slice (some ⟨w.heap.size,0,none⟩) n n) xs:=by
 subst hn;obtain ⟨h1,h2⟩:=(hr.kept (gAl w (.cells cs t) none)).out;exact Sl.block (Bk.new w t cs) trivial css h1 h2 hc (Nat.le_refl _) hb
section
variable {P:Program} {ops:Array Oper} {n:Nat} {a0:Act} {w0:World} {F:List Pv→Prop} {k:Nat} {Rs:List Pv} {o:Oper} {os:List Oper}
theorem pD{V G:Value→Prop}(h: ∀x,G x): ∀x,V x→G x:=fun x _=>h x
theorem pQ{v:Value}{G:Value→Prop}(h:G v): ∀x,x=v→G x:=fun _ e=>e ▸ h
theorem mV(V:Pv)(js:List (Nat×Tmp))(hA: ∀w,w0.grownBy w none→Ask P ops Rs.reverse (yi V o.dst a0.defers w) o w js a0)(h:zn P ops n a0 w0 F k (V::Rs) os)(hc:(yh ops Rs.length js && zZ ops n Rs.length js)=true:=by kernel_rfl):zn P ops n a0 w0 F (k+1) Rs (o::os):=⟨V,js,hc,hA,h⟩
theorem mS(u:Value)(js:List (Nat×Tmp))(hA: ∀w,w0.grownBy w none→Ask P ops Rs.reverse (yi (Pv.eq u) o.dst a0.defers w) o w js a0)(h:zn P ops n a0 w0 F k (Pv.eq u::Rs) os)(hc:(yh ops Rs.length js && zZ ops n Rs.length js)=true:=by kernel_rfl):zn P ops n a0 w0 F (k+1) Rs (o::os):=⟨_,js,hc,hA,h⟩
theorem kD{V:Pv}{ds:List Deferred}{a:Act}{w:World}(h: ∀K:Act→World→Prop,(∀a' w',a'.defers=ds→V.p (match o.dst with|some d=>a'.eval (.tmp d)|none=>undef) w'→w.grownBy w' none→K a' w')→o.wp P a w K (yi V o.dst ds w))(hw:Region.wanted o (yielded ops a.tmps)=true:=by rfl):wpList P ops (yi V o.dst ds w) [o] a w:=zq hw h
theorem kE{V:Pv}{ds:List Deferred}{a:Act}{w:World}(h: ∀K:Act→World→Prop,(∀a' w',a'.defers=ds→V.p (match o.dst with|some d=>a'.eval (.tmp d)|none=>undef) w'→w.grownBy w' none→K a' w')→o.wp P a w K (yi V o.dst ds w))(hw:Region.wanted o (yielded ops a.tmps)=true:=by kernel_rfl):wpList P ops (yi V o.dst ds w) [o] a w:=zq hw h
theorem kQ{u:Value}{ds:List Deferred}{a:Act}{w:World}(h: ∀K:Act→World→Prop,(∀a',a'.defers=ds→(match o.dst with|some d=>a'.eval (.tmp d)|none=>undef)=u→K a' w)→o.wp P a w K (yi (Pv.eq u) o.dst ds w))(hw:Region.wanted o (yielded ops a.tmps)=true:=by rfl):wpList P ops (yi (Pv.eq u) o.dst ds w) [o] a w:=zq hw fun K hK=>h K fun a' h1 h2=>hK a' w h1 h2 (World.grownBy.refl w none)
theorem kR{u:Value}{ds:List Deferred}{a:Act}{w:World}(h: ∀K:Act→World→Prop,(∀a',a'.defers=ds→(match o.dst with|some d=>a'.eval (.tmp d)|none=>undef)=u→K a' w)→o.wp P a w K (yi (Pv.eq u) o.dst ds w))(hw:Region.wanted o (yielded ops a.tmps)=true:=by kernel_rfl):wpList P ops (yi (Pv.eq u) o.dst ds w) [o] a w:=zq hw fun K hK=>h K fun a' h1 h2=>hK a' w h1 h2 (World.grownBy.refl w none)
end
section
variable {P:Program} {Q:Exit→Act→World→Prop} {a0:Act} {w0:World}
theorem Zf{l:List Oper}{id:Nat}(n:Nat)(h:zn P l.toArray n a0 w0.drew (fun Vs=> ∀w,w0.drew.grownBy w none→Ko P l.toArray Q w Vs l a0) n [] l)(hm:P.follows .mixedOrders=true:=by kernel_rfl)(hB:ZN l.toArray n a0.tmps.size=true:=by kernel_rfl):(Code.region id l.toArray true).wp P Q a0 w0:=Un n hm hB h
end
section
variable {P:Program} {ops:Array Oper} {n:Nat} {a0:Act} {w0:World} {F:List Pv→Prop} {k:Nat} {Rs:List Pv} {o:Oper} {os:List Oper}
theorem mQ0(u:Value)(hA: ∀w,w0.grownBy w none→ ∀K:Act→World→Prop,(∀a',a'.defers=a0.defers→(match o.dst with|some d=>a'.eval (.tmp d)|none=>undef)=u→K a' w)→o.wp P a0 w K (yi (Pv.eq u) o.dst a0.defers w))(h:zn P ops n a0 w0 F k (Pv.eq u::Rs) os)(hc:(yh ops Rs.length [] && zZ ops n Rs.length [])=true:=by kernel_rfl)(hw:Region.wanted o (yielded ops a0.tmps)=true:=by rfl):zn P ops n a0 w0 F (k+1) Rs (o::os):=⟨_, [],hc,fun w hw0=>by
 exact zq hw fun K hK=>hA w hw0 K fun a' h1 h2=>hK a' w h1 h2 (World.grownBy.refl w none),h⟩
theorem mN0(V:Pv)(hA: ∀w,w0.grownBy w none→ ∀K:Act→World→Prop,(∀a' w',a'.defers=a0.defers→V.p (match o.dst with|some d=>a'.eval (.tmp d)|none=>undef) w'→w.grownBy w' none→K a' w')→o.wp P a0 w K (yi V o.dst a0.defers w))(h:zn P ops n a0 w0 F k (V::Rs) os)(hc:(yh ops Rs.length [] && zZ ops n Rs.length [])=true:=by kernel_rfl)(hw:Region.wanted o (yielded ops a0.tmps)=true:=by rfl):zn P ops n a0 w0 F (k+1) Rs (o::os):=⟨_, [],hc,fun w hw0=>by
 exact zq hw fun K hK=>hA w hw0 K hK,h⟩
theorem mQ1(u:Value)(j0:Nat)(d0:Tmp){v0:Value}(hA: ∀w,w0.grownBy w none→ ∀K:Act→World→Prop,(∀a',a'.defers=a0.defers→(match o.dst with|some d=>a'.eval (.tmp d)|none=>undef)=u→K a' w)→o.wp P (a0.put (some d0) v0) w K (yi (Pv.eq u) o.dst a0.defers w))(h:zn P ops n a0 w0 F k (Pv.eq u::Rs) os)(hv0:Rs.reverse.getD j0 Pv.any=Pv.eq v0:=by rfl)(hc:(yh ops Rs.length [(j0,d0)] && zZ ops n Rs.length [(j0,d0)])=true:=by kernel_rfl)(hw:Region.wanted o (yielded ops (a0.put (some d0) v0).tmps)=true:=by rfl):zn P ops n a0 w0 F (k+1) Rs (o::os):=⟨_, [(j0,d0)],hc,fun w hw0 x0 h0=>by
 rw [hv0] at h0;obtain rfl:x0=v0:=h0;exact zq hw fun K hK=>hA w hw0 K fun a' h1 h2=>hK a' w h1 h2 (World.grownBy.refl w none),h⟩
theorem mN1(V:Pv)(j0:Nat)(d0:Tmp){v0:Value}(hA: ∀w,w0.grownBy w none→ ∀K:Act→World→Prop,(∀a' w',a'.defers=a0.defers→V.p (match o.dst with|some d=>a'.eval (.tmp d)|none=>undef) w'→w.grownBy w' none→K a' w')→o.wp P (a0.put (some d0) v0) w K (yi V o.dst a0.defers w))(h:zn P ops n a0 w0 F k (V::Rs) os)(hv0:Rs.reverse.getD j0 Pv.any=Pv.eq v0:=by rfl)(hc:(yh ops Rs.length [(j0,d0)] && zZ ops n Rs.length [(j0,d0)])=true:=by kernel_rfl)(hw:Region.wanted o (yielded ops (a0.put (some d0) v0).tmps)=true:=by rfl):zn P ops n a0 w0 F (k+1) Rs (o::os):=⟨_, [(j0,d0)],hc,fun w hw0 x0 h0=>by
 rw [hv0] at h0;obtain rfl:x0=v0:=h0;exact zq hw fun K hK=>hA w hw0 K hK,h⟩
theorem Dq(u:Value)(j0:Nat)(d0:Tmp){v0:Value}(hA: ∀w,w0.grownBy w none→ ∀K:Act→World→Prop,(∀a',a'.defers=a0.defers→(match o.dst with|some d=>a'.eval (.tmp d)|none=>undef)=u→K a' w)→o.wp P (a0.put (some d0) v0) w K (yi (Pv.eq u) o.dst a0.defers w))(h:zn P ops n a0 w0 F k (Pv.eq u::Rs) os)(hv0:Rs.reverse.getD j0 Pv.any=Pv.eq v0:=by rfl)(hc:(yh ops Rs.length [(j0,d0)] && zZ ops n Rs.length [(j0,d0)])=true:=by kernel_rfl)(hw:Region.wanted o (yielded ops (a0.put (some d0) v0).tmps)=true:=by kernel_rfl):zn P ops n a0 w0 F (k+1) Rs (o::os):=⟨_, [(j0,d0)],hc,fun w hw0 x0 h0=>by
 rw [hv0] at h0;obtain rfl:x0=v0:=h0;exact zq hw fun K hK=>hA w hw0 K fun a' h1 h2=>hK a' w h1 h2 (World.grownBy.refl w none),h⟩
theorem mQ2(u:Value)(j0:Nat)(d0:Tmp)(j1:Nat)(d1:Tmp){v0 v1:Value}(hA: ∀w,w0.grownBy w none→ ∀K:Act→World→Prop,(∀a',a'.defers=a0.defers→(match o.dst with|some d=>a'.eval (.tmp d)|none=>undef)=u→K a' w)→o.wp P ((a0.put (some d0) v0).put (some d1) v1) w K (yi (Pv.eq u) o.dst a0.defers w))(h:zn P ops n a0 w0 F k (Pv.eq u::Rs) os)(hv0:Rs.reverse.getD j0 Pv.any=Pv.eq v0:=by rfl)(hv1:Rs.reverse.getD j1 Pv.any=Pv.eq v1:=by rfl)(hc:(yh ops Rs.length [(j0,d0),(j1,d1)] && zZ ops n Rs.length [(j0,d0),(j1,d1)])=true:=by kernel_rfl)(hw:Region.wanted o (yielded ops ((a0.put (some d0) v0).put (some d1) v1).tmps)=true:=by rfl):zn P ops n a0 w0 F (k+1) Rs (o::os):=⟨_, [(j0,d0),(j1,d1)],hc,fun w hw0 x0 h0 x1 h1=>by
 rw [hv0] at h0;obtain rfl:x0=v0:=h0;rw [hv1] at h1;obtain rfl:x1=v1:=h1;exact zq hw fun K hK=>hA w hw0 K fun a' h1 h2=>hK a' w h1 h2 (World.grownBy.refl w none),h⟩
theorem mN2(V:Pv)(j0:Nat)(d0:Tmp)(j1:Nat)(d1:Tmp){v0 v1:Value}(hA: ∀w,w0.grownBy w none→ ∀K:Act→World→Prop,(∀a' w',a'.defers=a0.defers→V.p (match o.dst with|some d=>a'.eval (.tmp d)|none=>undef) w'→w.grownBy w' none→K a' w')→o.wp P ((a0.put (some d0) v0).put (some d1) v1) w K (yi V o.dst a0.defers w))(h:zn P ops n a0 w0 F k (V::Rs) os)(hv0:Rs.reverse.getD j0 Pv.any=Pv.eq v0:=by rfl)(hv1:Rs.reverse.getD j1 Pv.any=Pv.eq v1:=by rfl)(hc:(yh ops Rs.length [(j0,d0),(j1,d1)] && zZ ops n Rs.length [(j0,d0),(j1,d1)])=true:=by kernel_rfl)(hw:Region.wanted o (yielded ops ((a0.put (some d0) v0).put (some d1) v1).tmps)=true:=by rfl):zn P ops n a0 w0 F (k+1) Rs (o::os):=⟨_, [(j0,d0),(j1,d1)],hc,fun w hw0 x0 h0 x1 h1=>by
 rw [hv0] at h0;obtain rfl:x0=v0:=h0;rw [hv1] at h1;obtain rfl:x1=v1:=h1;exact zq hw fun K hK=>hA w hw0 K hK,h⟩
theorem Yq(u:Value)(j0:Nat)(d0:Tmp)(j1:Nat)(d1:Tmp){v0 v1:Value}(hA: ∀w,w0.grownBy w none→ ∀K:Act→World→Prop,(∀a',a'.defers=a0.defers→(match o.dst with|some d=>a'.eval (.tmp d)|none=>undef)=u→K a' w)→o.wp P ((a0.put (some d0) v0).put (some d1) v1) w K (yi (Pv.eq u) o.dst a0.defers w))(h:zn P ops n a0 w0 F k (Pv.eq u::Rs) os)(hv0:Rs.reverse.getD j0 Pv.any=Pv.eq v0:=by rfl)(hv1:Rs.reverse.getD j1 Pv.any=Pv.eq v1:=by rfl)(hc:(yh ops Rs.length [(j0,d0),(j1,d1)] && zZ ops n Rs.length [(j0,d0),(j1,d1)])=true:=by kernel_rfl)(hw:Region.wanted o (yielded ops ((a0.put (some d0) v0).put (some d1) v1).tmps)=true:=by kernel_rfl):zn P ops n a0 w0 F (k+1) Rs (o::os):=⟨_, [(j0,d0),(j1,d1)],hc,fun w hw0 x0 h0 x1 h1=>by
 rw [hv0] at h0;obtain rfl:x0=v0:=h0;rw [hv1] at h1;obtain rfl:x1=v1:=h1;exact zq hw fun K hK=>hA w hw0 K fun a' h1 h2=>hK a' w h1 h2 (World.grownBy.refl w none),h⟩
theorem GS(V:Pv)(j0:Nat)(d0:Tmp)(j1:Nat)(d1:Tmp){v0 v1:Value}(hA: ∀w,w0.grownBy w none→ ∀K:Act→World→Prop,(∀a' w',a'.defers=a0.defers→V.p (match o.dst with|some d=>a'.eval (.tmp d)|none=>undef) w'→w.grownBy w' none→K a' w')→o.wp P ((a0.put (some d0) v0).put (some d1) v1) w K (yi V o.dst a0.defers w))(h:zn P ops n a0 w0 F k (V::Rs) os)(hv0:Rs.reverse.getD j0 Pv.any=Pv.eq v0:=by rfl)(hv1:Rs.reverse.getD j1 Pv.any=Pv.eq v1:=by rfl)(hc:(yh ops Rs.length [(j0,d0),(j1,d1)] && zZ ops n Rs.length [(j0,d0),(j1,d1)])=true:=by kernel_rfl)(hw:Region.wanted o (yielded ops ((a0.put (some d0) v0).put (some d1) v1).tmps)=true:=by kernel_rfl):zn P ops n a0 w0 F (k+1) Rs (o::os):=⟨_, [(j0,d0),(j1,d1)],hc,fun w hw0 x0 h0 x1 h1=>by
 rw [hv0] at h0;obtain rfl:x0=v0:=h0;rw [hv1] at h1;obtain rfl:x1=v1:=h1;exact zq hw fun K hK=>hA w hw0 K hK,h⟩
theorem mQ3(u:Value)(j0:Nat)(d0:Tmp)(j1:Nat)(d1:Tmp)(j2:Nat)(d2:Tmp){v0 v1 v2:Value}(hA: ∀w,w0.grownBy w none→ ∀K:Act→World→Prop,(∀a',a'.defers=a0.defers→(match o.dst with|some d=>a'.eval (.tmp d)|none=>undef)=u→K a' w)→o.wp P (((a0.put (some d0) v0).put (some d1) v1).put (some d2) v2) w K (yi (Pv.eq u) o.dst a0.defers w))(h:zn P ops n a0 w0 F k (Pv.eq u::Rs) os)(hv0:Rs.reverse.getD j0 Pv.any=Pv.eq v0:=by rfl)(hv1:Rs.reverse.getD j1 Pv.any=Pv.eq v1:=by rfl)(hv2:Rs.reverse.getD j2 Pv.any=Pv.eq v2:=by rfl)(hc:(yh ops Rs.length [(j0,d0),(j1,d1),(j2,d2)] && zZ ops n Rs.length [(j0,d0),(j1,d1),(j2,d2)])=true:=by kernel_rfl)(hw:Region.wanted o (yielded ops (((a0.put (some d0) v0).put (some d1) v1).put (some d2) v2).tmps)=true:=by rfl):zn P ops n a0 w0 F (k+1) Rs (o::os):=⟨_, [(j0,d0),(j1,d1),(j2,d2)],hc,fun w hw0 x0 h0 x1 h1 x2 h2=>by
 rw [hv0] at h0;obtain rfl:x0=v0:=h0;rw [hv1] at h1;obtain rfl:x1=v1:=h1;rw [hv2] at h2;obtain rfl:x2=v2:=h2;exact zq hw fun K hK=>hA w hw0 K fun a' h1 h2=>hK a' w h1 h2 (World.grownBy.refl w none),h⟩
theorem mN3(V:Pv)(j0:Nat)(d0:Tmp)(j1:Nat)(d1:Tmp)(j2:Nat)(d2:Tmp){v0 v1 v2:Value}(hA: ∀w,w0.grownBy w none→ ∀K:Act→World→Prop,(∀a' w',a'.defers=a0.defers→V.p (match o.dst with|some d=>a'.eval (.tmp d)|none=>undef) w'→w.grownBy w' none→K a' w')→o.wp P (((a0.put (some d0) v0).put (some d1) v1).put (some d2) v2) w K (yi V o.dst a0.defers w))(h:zn P ops n a0 w0 F k (V::Rs) os)(hv0:Rs.reverse.getD j0 Pv.any=Pv.eq v0:=by rfl)(hv1:Rs.reverse.getD j1 Pv.any=Pv.eq v1:=by rfl)(hv2:Rs.reverse.getD j2 Pv.any=Pv.eq v2:=by rfl)(hc:(yh ops Rs.length [(j0,d0),(j1,d1),(j2,d2)] && zZ ops n Rs.length [(j0,d0),(j1,d1),(j2,d2)])=true:=by kernel_rfl)(hw:Region.wanted o (yielded ops (((a0.put (some d0) v0).put (some d1) v1).put (some d2) v2).tmps)=true:=by rfl):zn P ops n a0 w0 F (k+1) Rs (o::os):=⟨_, [(j0,d0),(j1,d1),(j2,d2)],hc,fun w hw0 x0 h0 x1 h1 x2 h2=>by
 rw [hv0] at h0;obtain rfl:x0=v0:=h0;rw [hv1] at h1;obtain rfl:x1=v1:=h1;rw [hv2] at h2;obtain rfl:x2=v2:=h2;exact zq hw fun K hK=>hA w hw0 K hK,h⟩
theorem DQ(u:Value)(j0:Nat)(d0:Tmp)(j1:Nat)(d1:Tmp)(j2:Nat)(d2:Tmp){v0 v1 v2:Value}(hA: ∀w,w0.grownBy w none→ ∀K:Act→World→Prop,(∀a',a'.defers=a0.defers→(match o.dst with|some d=>a'.eval (.tmp d)|none=>undef)=u→K a' w)→o.wp P (((a0.put (some d0) v0).put (some d1) v1).put (some d2) v2) w K (yi (Pv.eq u) o.dst a0.defers w))(h:zn P ops n a0 w0 F k (Pv.eq u::Rs) os)(hv0:Rs.reverse.getD j0 Pv.any=Pv.eq v0:=by rfl)(hv1:Rs.reverse.getD j1 Pv.any=Pv.eq v1:=by rfl)(hv2:Rs.reverse.getD j2 Pv.any=Pv.eq v2:=by rfl)(hc:(yh ops Rs.length [(j0,d0),(j1,d1),(j2,d2)] && zZ ops n Rs.length [(j0,d0),(j1,d1),(j2,d2)])=true:=by kernel_rfl)(hw:Region.wanted o (yielded ops (((a0.put (some d0) v0).put (some d1) v1).put (some d2) v2).tmps)=true:=by kernel_rfl):zn P ops n a0 w0 F (k+1) Rs (o::os):=⟨_, [(j0,d0),(j1,d1),(j2,d2)],hc,fun w hw0 x0 h0 x1 h1 x2 h2=>by
 rw [hv0] at h0;obtain rfl:x0=v0:=h0;rw [hv1] at h1;obtain rfl:x1=v1:=h1;rw [hv2] at h2;obtain rfl:x2=v2:=h2;exact zq hw fun K hK=>hA w hw0 K fun a' h1 h2=>hK a' w h1 h2 (World.grownBy.refl w none),h⟩
theorem Ei(V:Pv)(j0:Nat)(d0:Tmp)(j1:Nat)(d1:Tmp)(j2:Nat)(d2:Tmp){v0 v1 v2:Value}(hA: ∀w,w0.grownBy w none→ ∀K:Act→World→Prop,(∀a' w',a'.defers=a0.defers→V.p (match o.dst with|some d=>a'.eval (.tmp d)|none=>undef) w'→w.grownBy w' none→K a' w')→o.wp P (((a0.put (some d0) v0).put (some d1) v1).put (some d2) v2) w K (yi V o.dst a0.defers w))(h:zn P ops n a0 w0 F k (V::Rs) os)(hv0:Rs.reverse.getD j0 Pv.any=Pv.eq v0:=by rfl)(hv1:Rs.reverse.getD j1 Pv.any=Pv.eq v1:=by rfl)(hv2:Rs.reverse.getD j2 Pv.any=Pv.eq v2:=by rfl)(hc:(yh ops Rs.length [(j0,d0),(j1,d1),(j2,d2)] && zZ ops n Rs.length [(j0,d0),(j1,d1),(j2,d2)])=true:=by kernel_rfl)(hw:Region.wanted o (yielded ops (((a0.put (some d0) v0).put (some d1) v1).put (some d2) v2).tmps)=true:=by kernel_rfl):zn P ops n a0 w0 F (k+1) Rs (o::os):=⟨_, [(j0,d0),(j1,d1),(j2,d2)],hc,fun w hw0 x0 h0 x1 h1 x2 h2=>by
 rw [hv0] at h0;obtain rfl:x0=v0:=h0;rw [hv1] at h1;obtain rfl:x1=v1:=h1;rw [hv2] at h2;obtain rfl:x2=v2:=h2;exact zq hw fun K hK=>hA w hw0 K hK,h⟩
theorem Fv(V:Pv)(j0:Nat)(d0:Tmp)(j1:Nat)(d1:Tmp)(j2:Nat)(d2:Tmp)(j3:Nat)(d3:Tmp)(j4:Nat)(d4:Tmp){v0 v1 v2 v3 v4:Value}(hA: ∀w,w0.grownBy w none→ ∀K:Act→World→Prop,(∀a' w',a'.defers=a0.defers→V.p (match o.dst with|some d=>a'.eval (.tmp d)|none=>undef) w'→w.grownBy w' none→K a' w')→o.wp P (((((a0.put (some d0) v0).put (some d1) v1).put (some d2) v2).put (some d3) v3).put (some d4) v4) w K (yi V o.dst a0.defers w))(h:zn P ops n a0 w0 F k (V::Rs) os)(hv0:Rs.reverse.getD j0 Pv.any=Pv.eq v0:=by rfl)(hv1:Rs.reverse.getD j1 Pv.any=Pv.eq v1:=by rfl)(hv2:Rs.reverse.getD j2 Pv.any=Pv.eq v2:=by rfl)(hv3:Rs.reverse.getD j3 Pv.any=Pv.eq v3:=by rfl)(hv4:Rs.reverse.getD j4 Pv.any=Pv.eq v4:=by rfl)(hc:(yh ops Rs.length [(j0,d0),(j1,d1),(j2,d2),(j3,d3),(j4,d4)] && zZ ops n Rs.length [(j0,d0),(j1,d1),(j2,d2),(j3,d3),(j4,d4)])=true:=by kernel_rfl)(hw:Region.wanted o (yielded ops (((((a0.put (some d0) v0).put (some d1) v1).put (some d2) v2).put (some d3) v3).put (some d4) v4).tmps)=true:=by kernel_rfl):zn P ops n a0 w0 F (k+1) Rs (o::os):=⟨_, [(j0,d0),(j1,d1),(j2,d2),(j3,d3),(j4,d4)],hc,fun w hw0 x0 h0 x1 h1 x2 h2 x3 h3 x4 h4=>by
 rw [hv0] at h0;obtain rfl:x0=v0:=h0;rw [hv1] at h1;obtain rfl:x1=v1:=h1;rw [hv2] at h2;obtain rfl:x2=v2:=h2;rw [hv3] at h3;obtain rfl:x3=v3:=h3;rw [hv4] at h4;obtain rfl:x4=v4:=h4;exact zq hw fun K hK=>hA w hw0 K hK,h⟩
end
section
variable {P:Program} {ops:Array Oper} {n:Nat} {a0:Act} {w0:World} {F:List Pv→Prop} {k:Nat} {Rs:List Pv} {o:Oper} {os:List Oper}
theorem mP0(u:Value)(h:zn P ops n a0 w0 F k (Pv.eq u::Rs) os)(hc:(yh ops Rs.length [] && zZ ops n Rs.length [])=true:=by kernel_rfl)(hw:Region.wanted o (yielded ops a0.tmps)=true:=by rfl)(hA: ∀w,o.wp P a0 w (fun a' w'=>a'.defers=a0.defers∧(match o.dst with|some d=>a'.eval (.tmp d)|none=>undef)=u∧w'=w) (yi (Pv.eq u) o.dst a0.defers w):=by intro w;go_simp):zn P ops n a0 w0 F (k+1) Rs (o::os):=mQ0 u (fun w _ K hK=>Oper.wp_mono (fun a' w' h=>by obtain ⟨h1,h2,rfl⟩:=h;exact hK a' h1 h2) (hA w)) h hc hw
theorem mP1(u:Value)(j0:Nat)(d0:Tmp){v0:Value}(h:zn P ops n a0 w0 F k (Pv.eq u::Rs) os)(hv0:Rs.reverse.getD j0 Pv.any=Pv.eq v0:=by rfl)(hc:(yh ops Rs.length [(j0,d0)] && zZ ops n Rs.length [(j0,d0)])=true:=by kernel_rfl)(hw:Region.wanted o (yielded ops (a0.put (some d0) v0).tmps)=true:=by rfl)(hA: ∀w,o.wp P (a0.put (some d0) v0) w (fun a' w'=>a'.defers=a0.defers∧(match o.dst with|some d=>a'.eval (.tmp d)|none=>undef)=u∧w'=w) (yi (Pv.eq u) o.dst a0.defers w):=by intro w;go_simp):zn P ops n a0 w0 F (k+1) Rs (o::os):=mQ1 u j0 d0 (fun w _ K hK=>Oper.wp_mono (fun a' w' h=>by obtain ⟨h1,h2,rfl⟩:=h;exact hK a' h1 h2) (hA w)) h hv0 hc hw
theorem Zh(u:Value)(j0:Nat)(d0:Tmp){v0:Value}(h:zn P ops n a0 w0 F k (Pv.eq u::Rs) os)(hv0:Rs.reverse.getD j0 Pv.any=Pv.eq v0:=by rfl)(hc:(yh ops Rs.length [(j0,d0)] && zZ ops n Rs.length [(j0,d0)])=true:=by kernel_rfl)(hw:Region.wanted o (yielded ops (a0.put (some d0) v0).tmps)=true:=by kernel_rfl)(hA: ∀w,o.wp P (a0.put (some d0) v0) w (fun a' w'=>a'.defers=a0.defers∧(match o.dst with|some d=>a'.eval (.tmp d)|none=>undef)=u∧w'=w) (yi (Pv.eq u) o.dst a0.defers w):=by intro w;go_simp):zn P ops n a0 w0 F (k+1) Rs (o::os):=Dq u j0 d0 (fun w _ K hK=>Oper.wp_mono (fun a' w' h=>by obtain ⟨h1,h2,rfl⟩:=h;exact hK a' h1 h2) (hA w)) h hv0 hc hw
theorem mP2(u:Value)(j0:Nat)(d0:Tmp)(j1:Nat)(d1:Tmp){v0 v1:Value}(h:zn P ops n a0 w0 F k (Pv.eq u::Rs) os)(hv0:Rs.reverse.getD j0 Pv.any=Pv.eq v0:=by rfl)(hv1:Rs.reverse.getD j1 Pv.any=Pv.eq v1:=by rfl)(hc:(yh ops Rs.length [(j0,d0),(j1,d1)] && zZ ops n Rs.length [(j0,d0),(j1,d1)])=true:=by kernel_rfl)(hw:Region.wanted o (yielded ops ((a0.put (some d0) v0).put (some d1) v1).tmps)=true:=by rfl)(hA: ∀w,o.wp P ((a0.put (some d0) v0).put (some d1) v1) w (fun a' w'=>a'.defers=a0.defers∧(match o.dst with|some d=>a'.eval (.tmp d)|none=>undef)=u∧w'=w) (yi (Pv.eq u) o.dst a0.defers w):=by intro w;go_simp):zn P ops n a0 w0 F (k+1) Rs (o::os):=mQ2 u j0 d0 j1 d1 (fun w _ K hK=>Oper.wp_mono (fun a' w' h=>by obtain ⟨h1,h2,rfl⟩:=h;exact hK a' h1 h2) (hA w)) h hv0 hv1 hc hw
theorem yI(u:Value)(j0:Nat)(d0:Tmp)(j1:Nat)(d1:Tmp){v0 v1:Value}(h:zn P ops n a0 w0 F k (Pv.eq u::Rs) os)(hv0:Rs.reverse.getD j0 Pv.any=Pv.eq v0:=by rfl)(hv1:Rs.reverse.getD j1 Pv.any=Pv.eq v1:=by rfl)(hc:(yh ops Rs.length [(j0,d0),(j1,d1)] && zZ ops n Rs.length [(j0,d0),(j1,d1)])=true:=by kernel_rfl)(hw:Region.wanted o (yielded ops ((a0.put (some d0) v0).put (some d1) v1).tmps)=true:=by kernel_rfl)(hA: ∀w,o.wp P ((a0.put (some d0) v0).put (some d1) v1) w (fun a' w'=>a'.defers=a0.defers∧(match o.dst with|some d=>a'.eval (.tmp d)|none=>undef)=u∧w'=w) (yi (Pv.eq u) o.dst a0.defers w):=by intro w;go_simp):zn P ops n a0 w0 F (k+1) Rs (o::os):=Yq u j0 d0 j1 d1 (fun w _ K hK=>Oper.wp_mono (fun a' w' h=>by obtain ⟨h1,h2,rfl⟩:=h;exact hK a' h1 h2) (hA w)) h hv0 hv1 hc hw
theorem mP3(u:Value)(j0:Nat)(d0:Tmp)(j1:Nat)(d1:Tmp)(j2:Nat)(d2:Tmp){v0 v1 v2:Value}(h:zn P ops n a0 w0 F k (Pv.eq u::Rs) os)(hv0:Rs.reverse.getD j0 Pv.any=Pv.eq v0:=by rfl)(hv1:Rs.reverse.getD j1 Pv.any=Pv.eq v1:=by rfl)(hv2:Rs.reverse.getD j2 Pv.any=Pv.eq v2:=by rfl)(hc:(yh ops Rs.length [(j0,d0),(j1,d1),(j2,d2)] && zZ ops n Rs.length [(j0,d0),(j1,d1),(j2,d2)])=true:=by kernel_rfl)(hw:Region.wanted o (yielded ops (((a0.put (some d0) v0).put (some d1) v1).put (some d2) v2).tmps)=true:=by rfl)(hA: ∀w,o.wp P (((a0.put (some d0) v0).put (some d1) v1).put (some d2) v2) w (fun a' w'=>a'.defers=a0.defers∧(match o.dst with|some d=>a'.eval (.tmp d)|none=>undef)=u∧w'=w) (yi (Pv.eq u) o.dst a0.defers w):=by intro w;go_simp):zn P ops n a0 w0 F (k+1) Rs (o::os):=mQ3 u j0 d0 j1 d1 j2 d2 (fun w _ K hK=>Oper.wp_mono (fun a' w' h=>by obtain ⟨h1,h2,rfl⟩:=h;exact hK a' h1 h2) (hA w)) h hv0 hv1 hv2 hc hw
theorem DR(u:Value)(j0:Nat)(d0:Tmp)(j1:Nat)(d1:Tmp)(j2:Nat)(d2:Tmp){v0 v1 v2:Value}(h:zn P ops n a0 w0 F k (Pv.eq u::Rs) os)(hv0:Rs.reverse.getD j0 Pv.any=Pv.eq v0:=by rfl)(hv1:Rs.reverse.getD j1 Pv.any=Pv.eq v1:=by rfl)(hv2:Rs.reverse.getD j2 Pv.any=Pv.eq v2:=by rfl)(hc:(yh ops Rs.length [(j0,d0),(j1,d1),(j2,d2)] && zZ ops n Rs.length [(j0,d0),(j1,d1),(j2,d2)])=true:=by kernel_rfl)(hw:Region.wanted o (yielded ops (((a0.put (some d0) v0).put (some d1) v1).put (some d2) v2).tmps)=true:=by kernel_rfl)(hA: ∀w,o.wp P (((a0.put (some d0) v0).put (some d1) v1).put (some d2) v2) w (fun a' w'=>a'.defers=a0.defers∧(match o.dst with|some d=>a'.eval (.tmp d)|none=>undef)=u∧w'=w) (yi (Pv.eq u) o.dst a0.defers w):=by intro w;go_simp):zn P ops n a0 w0 F (k+1) Rs (o::os):=DQ u j0 d0 j1 d1 j2 d2 (fun w _ K hK=>Oper.wp_mono (fun a' w' h=>by obtain ⟨h1,h2,rfl⟩:=h;exact hK a' h1 h2) (hA w)) h hv0 hv1 hv2 hc hw
end
end
section
open Go Go.RowKit
def ZT(p:Par)(l:List (List Int)):Bool:= !Kz p l (wrap64 (p.T+1)) (wrap64 (p.T+1))
theorem Mu(p:Par)(B:Nat)(v:Value)(l:List (List Int))(X:Nat→Prop)(w:World)(hp:p.ok)(hb:Bk w B 39 p.cells)(h:Sl (zh ze) X w v l):
  Calls Tryz.prog 228 #[v, .pointer (some ⟨B,0,none⟩)] w fun e w'=>e= .returned (.bool (ZT p l))∧w.grownBy w' none:=by
 have HC:=za (fun w' (hw:w.grownBy w' none)=>Kl p v l (wrap64 (p.T+1)) (wrap64 (p.T+1)) X w' hp (h.kept hw));have HG:Hid (w.grownBy w none):=za (World.grownBy.refl w none);have HGd:Hid (w.grownBy w.drew none):=za (zb w 1);have hc:=hb.prule;obtain ⟨A,c,rfl,_,_⟩:=h.form;clear hp hb h;go_enter Tryz.func228,Tryz.ntmps228;go_wp2_with fail;refine (HC.out _ (by first|exact HG.out|exact HGd.out)).mono ?_;rintro e w1 ⟨rfl,hg⟩;have HG1:=za hg;clear hg;go_wp2;go_ret;exact ⟨rfl,by first|exact HG1.out|exact HGd.out.trans HG1.out⟩
theorem Hz(p:Par)(B:Nat)(v:Value)(l:List (List (List Int)))(X:Nat→Prop)(w:World)(hp:p.ok)(hb:Bk w B 39 p.cells)(h:Sl (zh (zh ze)) X w v l):
  Calls Tryz.prog 240 #[v, .func (.func 228) #[] #[.pointer (some ⟨B,0,none⟩)]] w (Xm (l.any fun x=>ZT p x) w):=by
 have Hhp:=za hp;have Hhb:=za hb;have H:=za h;have hl:=h.bound;obtain ⟨A,c,rfl,_,_⟩:=h.form;clear h hp hb;go_enter Tryz.func240,Tryz.ntmps240;go_wp2_with fail;go_loopg [8] l.length (fun n s8 wx=> ∃j:Nat,j+n=l.length∧s8= .int .i64 j∧Hid (w.grownBy wx none∧ ∀i (h:i< l.length),i< j→ZT p l[i]=false))
 case atStart=>exact ⟨0,by omega,rfl,za ⟨World.grownBy.refl w none,fun i hi h=>absurd h (by omega)⟩⟩
 case round=>
  obtain ⟨j,hj,rfl,HX⟩:=hrel;cases gk with
  |zero=>
   obtain rfl:j=l.length:=by omega
   have HE:Hid (Xm (l.any fun x=>ZT p x) w (.returned (.int .i64 (-1))) wr):=za ⟨-1,rfl,by
    have:(l.any fun x=>ZT p x)=false:=by
     rw [List.any_eq_false];intro b hb;obtain ⟨i,hi,rfl⟩:=List.getElem_of_mem hb;simp [HX.out.2 i hi hi]
    rw [this];rfl,⟨by decide,by decide⟩,HX.out.1⟩
   clear HX;go_wp2;go_ret;exact HE.out
  |succ k=>
   have hjn:(j:Int)< (l.length:Int):=by omega
   have hjN:j< l.length:=by omega
   obtain ⟨g,o,c',u,e,_,_,hcu,hu⟩:=(H.out.kept HX.out.1).atS hjN;injection e with e1 e2 e3
   subst e1 e3;have HC:=za (Mu p B u l[j] X wr (Hhp.out) (Hhb.out.grown HX.out.1 (by simp)) hu);have HV:Hid (ZT p l[j]=false∨ZT p l[j]=true):=za (by cases ZT p l[j]<;>simp);have HR:Hid (ZT p l[j]=false→ ∀i (h:i< l.length),i< j+1→ZT p l[i]=false):=za (fun h i hi hl=>by
    rcases Nat.lt_or_ge i j with h1|h1
    ·exact HX.out.2 i hi h1
    ·obtain rfl:i=j:=by omega
     exact h)
   have HN:Hid (ZT p l[j]=true→(l.any fun x=>ZT p x)=true):=za (fun h=>List.any_eq_true.2 ⟨_,List.getElem_mem hjN,by simp [h]⟩);obtain ⟨A7,c7,e7,_,_⟩:=hu.form;generalize l[j].length=n7 at e7;subst e7;have HG:=za HX.out.1;clear HX hu e2;generalize ZT p l[j]=b at *;generalize l[j]=x at *;rcases HV.out with rfl|rfl
   ·go_wp2_with fail;refine HC.out.mono ?_;rintro e w1 ⟨rfl,hg⟩;have HG1:=za (HG.out.trans hg);clear hg;go_wp2;go_roundg k
    case measure=>omega
    case rel=>exact ⟨j+1,by omega,by go_num,za ⟨HG1.out,HR.out (by simp)⟩⟩
   ·have HE:Hid (∀w1,w.grownBy w1 none→Xm (l.any fun x=>ZT p x) w (.returned (.int .i64 j)) w1):=za (fun w1 hg=>⟨j,rfl,by rw [HN.out rfl];simp,⟨by omega,by omega⟩,hg⟩);go_wp2_with fail;refine HC.out.mono ?_;rintro e w1 ⟨rfl,hg⟩;have HG1:=za (HG.out.trans hg);clear hg;go_wp2;go_ret;exact HE.out _ HG1.out
theorem NA(p:Par)(B:Nat)(v:Value)(l:List (List (List Int)))(X:Nat→Prop)(w:World)(hp:p.ok)(hb:Bk w B 39 p.cells)(h:Sl (zh (zh ze)) X w v l):
  Calls Tryz.prog 227 #[v, .func (.func 228) #[] #[.pointer (some ⟨B,0,none⟩)]] w fun e w'=>e= .returned (.bool (l.any fun x=>ZT p x))∧w.grownBy w' none:=by
 have HC:=za (Hz p B v l X w hp hb h);obtain ⟨A,c,rfl,_,_⟩:=h.form;clear h hp hb;go_enter Tryz.func227,Tryz.ntmps227;go_wp2_with fail;refine HC.out.mono ?_;rintro e w1 ⟨r,rfl,hr,_,hg⟩;have HG:=za hg;have HR:=za hr;clear hg hr;go_wp2;go_ret;exact ⟨zm HR.out,HG.out⟩
def ZH(p:Par)(m:List (List (List Int))):Bool:=decide ((m.length:Int)=zX p) && !m.any fun x=>ZT p x
theorem OJ(p:Par)(v:Value)(m:List (List (List Int)))(X:Nat→Prop)(w:World)(hp:p.ok)(h:Sl (zh (zh ze)) X w v m):
  Calls Tryz.prog 203 #[p.v,v] w fun e w'=>e= .returned (.bool (ZH p m))∧w.grownBy w' none:=by
 have HP:=za hp;have H:=za h;have HB:Hid (Bk (w.alloc (.cells p.cells 39)) w.heap.size 39 p.cells):=za (Bk.new w _ _);have HG:Hid (w.grownBy (w.alloc (.cells p.cells 39)) none):=za (gAl w _ none);have HS:=za (Vy p);obtain ⟨A,c,rfl,_,_⟩:=h.form;clear hp h;by_cases hne:(m.length:Int)=zX p
 ·have HR:Hid (ZH p m= !m.any fun x=>ZT p x):=za (by simp [ZH,hne]);have hd:((m.length:Int)==zX p)=true:=by simp [hne]
  go_enter Tryz.func203,Tryz.ntmps203;go_wp2_with fail;refine (HS.out _).mono ?_;rintro e w1 ⟨rfl,hg⟩;have HG1:=zE hg HG;have HB1:=xf hg HB;clear hg;go_wp2_with fail;refine (NA p w.heap.size _ m X w1 HP.out HB1.out (H.out.kept HG1.out)).mono ?_;rintro e w2 ⟨rfl,hg⟩;have HG2:=zE hg HG1;clear hg;go_wp2;go_ret;exact ⟨zm HR.out.symm,HG2.out⟩
 ·have HR:Hid (ZH p m=false):=za (by simp [ZH,hne]);have hd:((m.length:Int)==zX p)=false:=by simp [hne]
  go_enter Tryz.func203,Tryz.ntmps203;go_wp2_with fail;refine (HS.out _).mono ?_;rintro e w1 ⟨rfl,hg⟩;have HG1:=zE hg HG;clear hg;go_wp2;go_ret;exact ⟨zm HR.out.symm,HG1.out⟩
end
section
open Go Go.RowKit
def JU(M:List (List Int)):Int:=((M[0]?.getD [])[0]?).getD 0
def Zo(_p:Par)(m:List (List (List Int)))(sh:List Int)(s:Nat):Bool:=decide ((m[s]?.getD []).length≠0) && decide (JU (m[s]?.getD [])=sh[s]?.getD 0)
def xu(p:Par)(m:List (List (List Int)))(coms:List (List Int))(i:Int):Bool:=ZH p m && Za p coms && (List.range coms.length).all (Zo p m (zP p coms i))
theorem Ro{p:Par}{m:List (List (List Int))}(h:ZH p m=true):(m.length:Int)=zX p∧ ∀M∈m, ∀r∈M,r.length=M.length:=by
 simp only [ZH,Bool.and_eq_true,decide_eq_true_eq,Bool.not_eq_true',List.any_eq_false] at h;refine ⟨h.1,fun M hM r hr=> ?_⟩;have h1:=h.2 M hM;simp only [ZT,Kz,Bool.not_eq_true'] at h1;rw [Bool.not_eq_false] at h1;simp only [Bool.and_eq_true,decide_eq_true_eq,Bool.not_eq_true',List.any_eq_false] at h1;have h2:=h1.2 r hr;simp only [yz,Bool.or_eq_true,decide_eq_true_eq,not_or,Decidable.not_not] at h2
 have:=h1.1
 have:=h2.1
 omega
theorem NE(p:Par)(v1 v2:Value)(m:List (List (List Int)))(coms:List (List Int))(i:Int)(X Y:Nat→Prop)(w:World)(hp:p.ok)(h1:Sl (zh (zh ze)) X w v1 m)(h2:Sl (zh ze) Y w v2 coms)(hi:U64 i)(hb:coms.length≤100000):
  Calls Tryz.prog 161 #[p.v,v1,v2, .int .u64 i] w fun e w'=>e= .returned (.bool (xu p m coms i))∧w.grownBy w' none:=by
 have H1:=za h1;have H2:=za h2;have HB:Hid (Bk (w.alloc (.cells p.cells 39)) w.heap.size 39 p.cells):=za (Bk.new w _ _);have HG:Hid (w.grownBy (w.alloc (.cells p.cells 39)) none):=za (gAl w _ none);have HSQ:=za (fun w' (hw:w.grownBy w' none)=>OJ p v1 m X w' hp (h1.kept hw));have HFO:=za (fun w' (hw:w.grownBy w' none)=>Xz p v2 coms Y w' hp (h2.kept hw));have HSH:=za (fun w' (hw:w.grownBy w' none)=>YR p v2 coms i Y w' (h2.kept hw) hi hb);obtain ⟨A1,c1,rfl,_,_⟩:=h1.form;obtain ⟨A2,c2,rfl,_,_⟩:=h2.form;clear h1 h2 hp hi;cases hsq:ZH p m with
 |false=>
  have HR:Hid (xu p m coms i=false):=za (by simp [xu,hsq]);rw [hsq] at HSQ;clear hsq;go_enter Tryz.func161,Tryz.ntmps161;go_wp2_with fail;refine (HSQ.out _ HG.out).mono ?_;rintro e w1 ⟨rfl,hg⟩;have HG1:=zE hg HG;clear hg;go_wp2;go_ret;exact ⟨zm HR.out.symm,HG1.out⟩
 |true=>
  have HSS:=za (Ro hsq);cases hfo:Za p coms with
  |false=>
   have HR:Hid (xu p m coms i=false):=za (by simp [xu,hfo]);rw [hsq] at HSQ;rw [hfo] at HFO;clear hsq hfo;go_enter Tryz.func161,Tryz.ntmps161;go_wp2_with fail;refine (HSQ.out _ HG.out).mono ?_;rintro e w1 ⟨rfl,hg⟩;have HG1:=zE hg HG;have hp1:=(xf hg HB).out.prule;clear hg;go_wp2_with fail;refine (HFO.out _ HG1.out).mono ?_;rintro e w2 ⟨rfl,hg⟩;have HG2:=zE hg HG1;clear hg hp1;go_wp2;go_ret;exact ⟨zm HR.out.symm,HG2.out⟩
  |true=>
   have HR:Hid (xu p m coms i=(List.range coms.length).all (Zo p m (zP p coms i))):=za (by simp [xu,hfo,hsq]);have HCL:Hid ((coms.length:Int)=zX p):=za (by simp only [Za,Kz,Bool.and_eq_true,decide_eq_true_eq] at hfo;exact hfo.1);rw [hsq] at HSQ;rw [hfo] at HFO;clear hsq hfo;obtain ⟨N,hN⟩: ∃N,N=coms.length:=⟨_,rfl⟩;have HNL:Hid ((zP p coms i).length=N):=za (by simp [zP,hN]);have HML:Hid (m.length=N):=za (by have:=HSS.out.1;have:=HCL.out;omega);rw [←hN] at HR;have hN9:N≤100000:=by omega
   clear hN;go_enter Tryz.func161,Tryz.ntmps161;go_wp2_with fail;refine (HSQ.out _ HG.out).mono ?_;rintro e w1 ⟨rfl,hg⟩;have HG1:=zE hg HG;have HB1:=xf hg HB;have hp1:=HB1.out.prule;clear hg;go_wp2_with fail;refine (HFO.out _ HG1.out).mono ?_;rintro e w2 ⟨rfl,hg⟩;have HG2:=zE hg HG1;have HB2:=xf hg HB1;have hp2:=HB2.out.prule;clear hg hp1;go_wp2_with fail;refine (HSH.out _ HG2.out).mono ?_;rintro e w3 ⟨v3,rfl,h3,hg⟩;have HG3:=zE hg HG2;obtain ⟨A3,c3,e3,_,_⟩:=h3.form;rw [HNL.out] at e3;subst e3;have H3:=za h3;have HST:Hid (∀q,q< 0→Zo p m (zP p coms i) q=true):=za (fun q h=>absurd h (Nat.not_lt_zero _));clear hg hp2 h3;go_wp2_with fail;go_loopg [26] N (fun g s26 wx=> ∃j:Nat,j+g=N∧s26= .int .i64 j∧Hid (wx=w3)∧Hid (∀q,q< j→Zo p m (zP p coms i) q=true))
   case atStart=>exact ⟨0,by omega,rfl,za rfl,HST⟩
   case round=>
    obtain ⟨j,hj,rfl,HW,HX⟩:=hrel;obtain rfl:w3=wr:=HW.out.symm;cases gk with
    |zero=>
     obtain rfl:j=N:=by omega
     have HE:Hid (xu p m coms i=true):=za (by rw [HR.out,List.all_eq_true];exact fun q hq=>HX.out q (List.mem_range.1 hq));clear HX HST HW;go_wp2;go_ret;exact ⟨zm HE.out.symm,HG3.out⟩
    |succ k=>
     have hjn:(j:Int)< (N:Int):=by omega
     have hj0:(0:Int)≤(j:Int):=by omega
     have hjm:j< m.length:=by rw [HML.out];omega
     have hjs:j< (zP p coms i).length:=by rw [HNL.out];omega
     have hjmI:(j:Int)< (m.length:Int):=by omega
     obtain ⟨g,o,c',e,_,_,hcu,_⟩:=H3.out.atU hjs;injection e with e1 e2 e3
     subst e1 e3;obtain ⟨g1,o1,c1',u,e,_,_,hcm,hsm⟩:=(H1.out.kept HG3.out).atS hjm;injection e with e11 e12 e13
     subst e11 e13;obtain ⟨A4,c4,e4,_,_⟩:=hsm.form;have HB1:Hid (Zo p m (zP p coms i) j=(decide (m[j].length≠0) && decide (JU m[j]=(zP p coms i)[j]))):=za (by simp [Zo,List.getElem?_eq_getElem hjm,List.getElem?_eq_getElem hjs]);have HNO:Hid (Zo p m (zP p coms i) j=false→xu p m coms i=false):=za (fun h=>by
      rw [HR.out,List.all_eq_false];exact ⟨j,List.mem_range.2 (by omega),by simp [h]⟩)
     have HYE:Hid (Zo p m (zP p coms i) j=true→ ∀q,q< j+1→Zo p m (zP p coms i) q=true):=za (fun h q hq=>by
      rcases Nat.lt_or_ge q j with h1|h1
      ·exact HX.out q h1
      ·obtain rfl:q=j:=by omega
       exact h)
     have HROW:=za (HSS.out.2 m[j] (List.getElem_mem hjm));generalize (zP p coms i)[j]=want at *;generalize m[j]=M at *;clear HX HST e2 e12;by_cases hl0:M.length=0
     ·have hd:((M.length:Int)==0)=true:=by simp [hl0]
      have HNE:Hid (xu p m coms i=false):=za (HNO.out (by rw [HB1.out];simp [hl0]));subst e4;clear hsm HB1 HNO HYE HROW;go_wp2;go_ret;exact ⟨zm HNE.out.symm,HG3.out⟩
     ·have hd:((M.length:Int)==0)=false:=by simp [hl0]
      have hM0:0< M.length:=by omega
      have hM0I:(0:Int)< (M.length:Int):=by omega
      clear e4;obtain ⟨g2,o2,c2',u2,eu,_,_,hcr,hsr⟩:=hsm.atS hM0;subst eu;have hr0:0< M[0].length:=by rw [HROW.out M[0] (List.getElem_mem hM0)];exact hM0
      have hr0I:(0:Int)< (M[0].length:Int):=by omega
      obtain ⟨g3,o3,c3',e5,_,_,hcx,_⟩:=hsr.atU hr0;subst e5;have HHD:Hid (JU M=M[0][0]):=za (by simp [JU,List.getElem?_eq_getElem hM0,List.getElem?_eq_getElem hr0]);have hB:Zo p m (zP p coms i) j=decide (M[0][0]=want):=by rw [HB1.out,HHD.out];simp [hl0]
      have HBE:=za hB;simp only [Nat.add_zero] at hcr hcx;clear hsm hsr HB1 HROW HHD hB;generalize M[0][0]=y at *;generalize M[0].length=n0 at *;generalize M.length=nM at *;by_cases hyw:y=want
      ·have hd2:(y !=want)=false:=by simp [hyw]
       have HY2:=za (HYE.out (by rw [HBE.out];simp [hyw]));subst hyw;clear HNO HYE HBE;go_wp2_with fail;go_roundg k
       case measure=>omega
       case rel=>exact ⟨j+1,by omega,by go_num,za rfl,HY2⟩
      ·have hd2:(y !=want)=true:=by simp [hyw]
       have HNE:Hid (xu p m coms i=false):=za (HNO.out (by rw [HBE.out];simp [hyw]));clear HNO HYE HBE;go_wp2;go_ret;exact ⟨zm HNE.out.symm,HG3.out⟩
end
section
open Go
section
variable {P:Program} {ops:Array Oper} {Q:Exit→Act→World→Prop} {n:Nat} {a0:Act} {w0:World}
def QC(u:Value)(dst:Option Tmp)(ds:List Deferred)(K:World→Prop):Exit→Act→World→Prop:=fun e a' w'=>e= .normal∧a'.defers=ds∧(match dst with|some d=>a'.eval (.tmp d)|none=>undef)=u∧K w'
def ZP(P:Program)(ops:Array Oper)(n:Nat)(a0:Act)(C:Array Bool→World→Prop)(us:List Value):Nat→Nat→List Oper→Prop
 |0,_,_=>True
 |_+1,_, []=>False
 |k+1,i,o::os=>(∃js:List (Nat×Tmp),(yh ops i js && zZ ops n i js)=true∧ ∀D w,D.size=ops.size→D.getD i false=false→(∀k,av ops i n k=false→D.getD k false=false)→C D w→Ask P ops (us.map Pv.eq) (QC (us.getD i undef) o.dst a0.defers (C (D.setIfInBounds i true))) o w js a0)∧ZP P ops n a0 C us k (i+1) os
theorem ZP.out{C:Array Bool→World→Prop}{us:List Value}: ∀{k i:Nat} {os:List Oper},ZP P ops n a0 C us k i os→ ∀m o,m< k→os[m]? =some o→ ∃js:List (Nat×Tmp),(yh ops (i+m) js && zZ ops n (i+m) js)=true∧ ∀D w,D.size=ops.size→D.getD (i+m) false=false→(∀k,av ops (i+m) n k=false→D.getD k false=false)→C D w→Ask P ops (us.map Pv.eq) (QC (us.getD (i+m) undef) o.dst a0.defers (C (D.setIfInBounds (i+m) true))) o w js a0
 |0,_,_,_,m,o,hm,_=>by omega
 |_+1,_, [],h,_,_,_,_=>h.elim
 |k+1,i,o::os,h,m,o',hm,ho=>by
  cases m with
  |zero=>
   obtain rfl:o=o':=by simpa using ho
   exact h.1
  |succ m=>
   have:=ZP.out h.2 m o' (by omega) (by simpa using ho)
   rwa [show i+1+m=i+(m+1) by omega] at this
theorem ZP.step{C:Array Bool→World→Prop}{us:List Value}{k i:Nat}{o:Oper}{os:List Oper}(js:List (Nat×Tmp))(hc:(yh ops i js && zZ ops n i js)=true)(hA: ∀D w,D.size=ops.size→D.getD i false=false→(∀k,av ops i n k=false→D.getD k false=false)→C D w→Ask P ops (us.map Pv.eq) (QC (us.getD i undef) o.dst a0.defers (C (D.setIfInBounds i true))) o w js a0)(h:ZP P ops n a0 C us k (i+1) os):ZP P ops n a0 C us (k+1) i (o::os):=⟨⟨js,hc,hA⟩,h⟩
structure Db (ops:Array Oper) (n:Nat) (a0:Act) (C:Array Bool→World→Prop) (us:List Value) (D:Array Bool) (a:Act) (w:World):Prop where
 head:HeadInv .any ops n D
 cls:C D w
 tsize:a.tmps.size=a0.tmps.size
 defers:a.defers=a0.defers
 rest: ∀t,(∀j,j< n→D.getD j false=true→zU ops j≠some t)→a.tmps[t]? =a0.tmps[t]?
 known: ∀j u,D.getD j false=true→us[j]? =some u→Tc (zU ops j) a=u
theorem YN{u:Value}{dst:Option Tmp}{ds:List Deferred}{K:World→Prop}: ¬LetsOut (QC u dst ds K):=by
 rintro ⟨a,w',e,_⟩;cases e
theorem KY{u:Value}{K:World→Prop}{o:Oper}{a b:Act}{w:World}(hs: ∀cs b,o.op≠ .select cs b)(hd: ∀d,o.dst=some d→d< a.tmps.size)(hsz:b.tmps.size=a.tmps.size)(hlook: ∀t∈o.looksAt ops,b.tmps[t]? =a.tmps[t]?){i:Nat}(hi:ops[i]? =some o)
  (hdf:b.defers=a0.defers) (h:wpList P ops (QC u o.dst a0.defers K) [o] b w):wpOp P ops Q i (fun a' w'=> ∃v,a'=a.put o.dst v∧(match o.dst with|some _=>v|none=>undef)=u∧K w') a w:=by
 have hex:execOp b.eval o=execOp a.eval o:=execOp_congr o hs fun x hx=>by
  cases x with
  |tmp t=>exact Yd _ _ _ (hlook t (List.mem_append_left _ (List.mem_filterMap.2 ⟨.tmp t,by simpa using hx,rfl⟩)))
  |_=>rfl
 have hwn:Region.wanted o (yielded ops b.tmps)=Region.wanted o (yielded ops a.tmps):=by
  unfold Region.wanted;cases hg:o.guard with
  |none=>rfl
  |some gw=>
   obtain ⟨g,want⟩:=gw;have hy:yielded ops b.tmps g=yielded ops a.tmps g:=by
    unfold yielded;cases ht:(ops[g]?).bind (·.dst) with
    |none=>rfl
    |some t=>simp only [Option.bind_some,hlook t (by simp [Oper.looksAt,hg,ht])]
   simp only [hy]
 have fin: ∀v w',QC u o.dst a0.defers K .normal (b.put o.dst v) w'→ ∃v',a.put o.dst v=a.put o.dst v'∧(match o.dst with|some _=>v'|none=>undef)=u∧K w':=by
  rintro v w' ⟨_,_,h1,h2⟩;refine ⟨v,rfl, ?_,h2⟩;cases hdd:o.dst with
  |none=>rw [hdd] at h1;exact h1
  |some d=>
   rw [hdd] at h1;have hlt:=hd d hdd
   have:(b.put (some d) v).eval (.tmp d)=v:=by simp [Act.put,Act.eval,Array.getD_eq_getD_getElem?,hsz,hlt]
   simp only [this] at h1;exact h1
 unfold wpOp;simp only [hi];simp only [wpList,hwn] at h;split
 ·rename_i hw;rw [if_pos hw] at h;rcases h with h|h
  ·left;unfold Oper.wp at h ⊢;rw [hex] at h;generalize (execOp a.eval o).run P w=r at *;cases r with
   |ok x w'=>
    cases x with
    |value v=>exact fin v w' h
    |skip=>exact fin undef w' h
    |enter f args=>
     refine Calls.mono h fun e w'' he=> ?_
     cases e with
     |returned u=>exact fin u w'' he
     |panicked c=>exact absurd he.1 (by simp)
     |outgrown=>exact absurd he YN
    |row row args=>exact Rows.mono h fun u w'' he=>fin u w'' he
    |defer d=>
     obtain ⟨_,h1,_⟩:=h;have h1:(Act.put {b with defers:=d::b.defers} o.dst undef).defers=a0.defers:=h1;rw [yC, ←hdf] at h1;exact absurd (congrArg List.length h1) (by simp)
    |_=>exact h.elim
   |halt x w'=>
    cases x with
    |panic v=>exact absurd h.1 (by simp)
    |_=>exact h.elim
  ·exact absurd h.2 YN
 ·rename_i hw;rw [if_neg hw] at h;exact fin undef w h
theorem Ls{C:Array Bool→World→Prop}{us:List Value}{D:Array Bool}{a a':Act}{w w':World}{i:Nat}{o:Oper}{v:Value}(inv:Db ops n a0 C us D a w)(hd:LK ops n a0.tmps.size=true)(hi:i∈Region.ready .any ops D)(hin:i< n)(ho:ops[i]? =some o)(hnl:us.length≤n)
  (ha:a'=a.put o.dst v) (hv:(match o.dst with|some _=>v|none=>undef)=us.getD i undef) (hg:C (D.setIfInBounds i true) w'):Db ops n a0 C us (D.setIfInBounds i true) a' w':=by
 subst ha;have hdi:zU ops i=o.dst:=by simp [zU,ho]
 have hun:D.getD i true=false:=(mem_ready.1 hi).1;have hlt:i< D.size:=by
  rcases Nat.lt_or_ge i D.size with h'|h'
  ·exact h'
  ·simp [Array.getElem?_eq_none h'] at hun
 refine ⟨inv.head.set hi hin,hg,(Yj _ _ _).trans inv.tsize,(yC _ _ _).trans inv.defers,fun t ht=> ?_,fun j W hj hW=> ?_⟩
 ·have h1:o.dst≠some t:=fun e=>ht i hin (by simp [hlt]) (hdi.trans e)
  refine Eq.trans ?_ (inv.rest t fun j hj hD=>ht j hj (getD_set_true hD));cases hdd:o.dst with
  |none=>rfl
  |some d=>exact YU _ _ _ _ (fun e=>h1 (by rw [hdd,e]))
 ·by_cases e:i=j
  ·subst e;have hWe:us.getD i undef=W:=by rw [List.getD_eq_getElem?_getD,hW];rfl
   rw [hWe] at hv;rw [hdi];cases hdd:o.dst with
   |none=>rw [hdd] at hv;exact hv
   |some d=>
    rw [hdd] at hv;have hds:=zg hd hin;rw [hdi,hdd] at hds;simp only [Bool.and_eq_true,decide_eq_true_eq] at hds
    have:(a.put (some d) v).eval (.tmp d)=v:=by simp [Act.put,Act.eval,Array.getD_eq_getD_getElem?,inv.tsize,hds.1]
    show (a.put (some d) v).eval (.tmp d)=W;rw [this];exact hv
  ·have hjn:j< n:=by have:=(List.getElem?_eq_some_iff.1 hW).1;omega
   rw [getD_set_ne false e] at hj;have h1:=inv.known j W hj hW;cases hdj:zU ops j with
   |none=>rw [hdj] at h1;exact h1
   |some dj=>
    rw [hdj] at h1;have h1:a.eval (.tmp dj)=W:=h1;show (a.put o.dst v).eval (.tmp dj)=W;cases hdd:o.dst with
    |none=>exact h1
    |some d=>
     have hds:=zg hd hin;rw [hdi,hdd] at hds;simp only [Bool.and_eq_true,decide_eq_true_eq] at hds;have h2:=zg hds.2 hjn;simp only [Bool.or_eq_true,beq_iff_eq,bne_iff_ne,ne_eq] at h2;have h3:d≠dj:=fun e'=>(h2.resolve_left (fun e2=>e e2.symm)) (by rw [hdj,e'])
     rw [Yd _ a dj (YU a d dj v h3)];exact h1
theorem OB{l:List Oper}(n:Nat)(C:Array Bool→World→Prop)(us:List Value)(hB:ZN l.toArray n a0.tmps.size=true)(hul:us.length=n)(hC0:C (Array.replicate l.toArray.size false) w0)
  (h:ZP P l.toArray n a0 C us n 0 l) (hF: ∀D w,(∀i,i< n→D.getD i false=true)→C D w→Ko P l.toArray Q w (us.map Pv.eq) l a0):wpAny P .any l.toArray Q l.toArray.size (Array.replicate l.toArray.size false) a0 w0:=by
 simp only [ZN,Bool.and_eq_true,decide_eq_true_eq] at hB;obtain ⟨⟨⟨⟨hsel,hn⟩,htail⟩,htopo⟩,hdist⟩:=hB;simp only [OG,Bool.and_eq_true] at htail;obtain ⟨hblk,hseq⟩:=htail;have hnl:n≤l.length:=by simpa using hn
 have htl:(l.take n).length=n:=by simp;omega
 have hVn:us.length=n:=hul;have hdl:(l.drop n).length=l.toArray.size - n:=by simp
 have hnext: ∀i o,i< n→l.toArray[i]? =some o→(l.take n)[i]? =some o:=fun i o hi ho=>by
  rw [List.getElem?_take,if_pos hi];simpa using ho
 have key: ∀m D a w,Db l.toArray n a0 C us D a w→cnt D n=m→wpAny P .any l.toArray Q (m+(l.toArray.size - n)) D a w:=by
  intro m;induction m with
  |zero=>
   intro D a w inv hc;have hall:=xe hc;have hD:D=Array.replicate n true++Array.replicate (l.toArray.size - n) false:=by
    have hsz:=inv.head.size;refine Array.ext (by simp [hsz];omega) fun i h1 h2=> ?_
    rw [Array.getElem_append];by_cases hi:i< n
    ·have:=hall i hi
     simp [h1] at this;simp [hi,this]
    ·have:=inv.head.tail i (by omega) (by omega)
     simp [h1] at this;simp [hi,this]
   have hlen:(us.map Pv.eq).length=(l.take n).length:=by rw [List.length_map,hul,htl]
   have hk: ∀(k:Nat) (V:Pv) (o:Oper),(us.map Pv.eq)[k]? =some V→(l.take n)[k]? =some o→V.p (match o.dst with|some d=>a.eval (.tmp d)|none=>undef) w:=by
    intro k V o hv ho;rw [List.getElem?_map] at hv;obtain ⟨u,hu,rfl⟩:=Option.map_eq_some_iff.1 hv;have hkn:k< n:=by have:=(List.getElem?_eq_some_iff.1 hu).1;omega
    have h1:=inv.known k u (hall k hkn) hu;have h2:zU l.toArray k=o.dst:=by
     have:l[k]? =some o:=by rw [List.getElem?_take,if_pos hkn] at ho;exact ho
     simp [zU,this]
    rw [h2] at h1;refine Eq.trans ?_ h1;unfold Tc;cases o.dst<;>rfl
   have hcut:=Ko.cut (Vs:=us.map Pv.eq) (os:=l) (by rw [List.length_map];omega) (hF D w hall inv.cls);rw [show (us.map Pv.eq).length=n by rw [List.length_map];exact hul] at hcut;have hfin:=Kq.all hlen hk hcut;have hon:QI a ((l.take n).map (·.dst)) a0=a:=by
    refine Uj (fun t=>xZ a t _ _ inv.tsize.symm ?_) ((ye _ _ _).trans inv.defers.symm);by_cases ht:some t∈(l.take n).map (·.dst)
    ·exact .inl ht
    ·refine .inr (inv.rest t fun j hj _ e=>ht ?_).symm;have hjl:j< l.length:=by omega
     have:l[j].dst=some t:=by simpa [zU,hjl] using e
     exact List.mem_map.2 ⟨l[j],List.mem_iff_getElem?.2 ⟨j,by rw [List.getElem?_take,if_pos hj,List.getElem?_eq_getElem hjl]⟩,this⟩
   rw [hon] at hfin
   have:=wpAny_of_seq (md:= .any) (Q':=Q) (l.drop n) n D a w (fun j=>by simp [List.getElem?_drop]) (by rw [hdl,hD];exact hseq) hfin
   rw [hdl] at this
   rwa [Nat.zero_add]
  |succ m ih=>
   intro D a w inv hc;have hready: ∀i∈Region.ready .any l.toArray D,i< n:=by
    intro i hi;rcases Nat.lt_or_ge i n with h'|h'
    ·exact h'
    ·obtain ⟨hu,oi,hoi,hall⟩:=mem_ready.1 hi;have hlt:i< l.toArray.size:=(Array.getElem?_eq_some_iff.1 hoi).1;exfalso;obtain ⟨k,hk,hkd⟩: ∃k,k< n∧D.getD k false=false:=by
      refine Classical.byContradiction fun hno=> ?_
      have: ∀k,k≤n→cnt D k=0:=by
       intro k;induction k with
       |zero=>intro _;rfl
       |succ k ihk=>
        intro hk;have h1:D.getD k false=true:=by
         refine Classical.byContradiction fun hx=>hno ⟨k,by omega,by simpa using hx⟩
        simp only [cnt,h1,ihk (by omega)];rfl
      rw [this n (Nat.le_refl _)] at hc;omega
     have hb:=zg hblk hlt;simp only [Bool.or_eq_true,decide_eq_true_eq] at hb;have hb:=zg (hb.resolve_left (by omega)) hk;simp only [Bool.not_eq_true'] at hb;have hik:i≠k:=by omega
     have:av l.toArray k n i=true:=by
      have hav:=fun f j hj=>Qp (ops:=l.toArray) inv.head.closed inv.head.size hkd f j hj
      cases hn0:n with
      |zero=>simp [av,hik]
      |succ f=>
       simp only [av,hoi,Option.map_some,Option.getD_some,Bool.and_eq_true,bne_iff_ne];refine ⟨hik, ?_⟩;rw [Array.all_eq_true_iff_forall_mem];intro e he;by_cases hbd:Region.binds .any e=true
       ·simp [hbd,hav f e.on (hall e he hbd)]
       ·simp [hbd]
     rw [hb] at this;cases this
   have hne:Region.ready .any l.toArray D≠ []:=by
    have hex: ∃k,k< n∧D.getD k false=false∧ ∀j,j< k→D.getD j false=true:=by
     have: ∀k,k≤n→(∃q,q< k∧D.getD q false=false∧ ∀j,j< q→D.getD j false=true)∨(cnt D k=0):=by
      intro k;induction k with
      |zero=>intro _;exact .inr rfl
      |succ k ihk=>
       intro hk;rcases ihk (by omega) with ⟨q,h1,h2⟩|h0
       ·exact .inl ⟨q,by omega,h2⟩
       ·cases hq:D.getD k false with
        |true=>right;simp only [cnt,hq,h0];rfl
        |false=>exact .inl ⟨k,by omega,hq,xe h0⟩
     rcases this n (Nat.le_refl _) with ⟨q,h1,h2⟩|h0
     ·exact ⟨q,h1,h2⟩
     ·omega
    obtain ⟨k,hk,hkd,hbel⟩:=hex;have hkl:k< l.toArray.size:=by omega
    have ho:l.toArray[k]? =some l.toArray[k]:=Array.getElem?_eq_getElem hkl
    have:k∈Region.ready .any l.toArray D:=by
     refine mem_ready.2 ⟨getD_in (by rw [inv.head.size];exact hkl) hkd,_,ho,fun e he hb=>hbel _ ?_⟩;have ht:=zg htopo hk;simp only [ho,Option.map_some,Option.getD_some] at ht
     have:=Array.all_eq_true_iff_forall_mem.1 ht e he
     simpa [hb] using this
    intro e;rw [e] at this;cases this
   rw [show m+1+(l.toArray.size - n)=(m+(l.toArray.size - n))+1 by omega];refine ⟨fun e=>absurd e hne,fun i hi=> ?_⟩;have hin:=hready i hi;obtain ⟨hu,o,ho,hall⟩:=mem_ready.1 hi;obtain ⟨js,hchk,hask⟩:=ZP.out h i o hin (by simpa using ho);simp only [Nat.zero_add,Bool.and_eq_true] at hchk hask;obtain ⟨hpair,hlook⟩:=hchk;have hdst: ∀d,o.dst=some d→d< a.tmps.size:=by
    intro d hd
    have:=zg hdist hin
    have h2:zU l.toArray i=some d:=by simp only [zU,ho];exact hd
    rw [h2] at this;simp only [Bool.and_eq_true,decide_eq_true_eq] at this;rw [inv.tsize];exact this.1
   have hjs: ∀x:Nat×Tmp,x∈js→zU l.toArray x.1=some x.2∧D.getD x.1 false=true∧x.1< i:=by
    intro x hx
    have:=List.all_eq_true.1 hpair x hx
    simp only [Bool.and_eq_true,beq_iff_eq] at this;obtain ⟨oj,hoj,e,he,hb,hon⟩:=Region.waitsFor_spec this.2;obtain rfl:o=oj:=Option.some.inj (ho.symm.trans hoj);have ht:=zg htopo hin;simp only [ho,Option.map_some,Option.getD_some] at ht;have ht:=Array.all_eq_true_iff_forall_mem.1 ht e he;simp only [hb,Bool.not_true,Bool.false_or,decide_eq_true_eq] at ht;exact ⟨this.1,by rw [←hon];exact hall e he hb,by rw [←hon];exact ht⟩
   have hA:=hask D w inv.head.size (getD_both hu) (fun k hk=>by
    cases hdk:D.getD k false with
    |false=>rfl
    |true=>rw [Qp (ops:=l.toArray) inv.head.closed inv.head.size (getD_both hu) n k hdk] at hk;cases hk) inv.cls
   have hW:=Ask.all (b:=a) (fun x hx=>by
    obtain ⟨h1,h2,h3⟩:=hjs x hx;have hxl:x.1< us.length:=by omega
    have h4:us[x.1]? =some us[x.1]:=List.getElem?_eq_getElem hxl;have h5:=inv.known x.1 _ h2 h4;rw [h1] at h5
    have:(us.map Pv.eq).getD x.1 Pv.any=Pv.eq us[x.1]:=by
     rw [List.getD_eq_getElem?_getD,List.getElem?_map,h4];rfl
    rw [this];exact h5) hA
   have hop:=KY (Q:=Q) (ops:=l.toArray) (a0:=a0) (a:=a) (Region.noSelect_spec hsel i o · · ho) hdst ((Zw _ _ _).trans inv.tsize.symm) (fun t ht=>by
    refine xZ a t _ _ inv.tsize.symm ?_;have h1:(o.looksAt l.toArray).all (fun t=>js.any (·.2==t)||Nh l.toArray n i t)=true:=by
     simpa only [zZ,ho,Option.map_some,Option.getD_some] using hlook
    have h2:=List.all_eq_true.1 h1 t ht;simp only [Bool.or_eq_true] at h2;rcases h2 with h2|h2
    ·left;obtain ⟨x,hx,hxt⟩:=List.any_eq_true.1 h2;exact List.mem_map.2 ⟨x,hx,by rw [beq_iff_eq.1 hxt]⟩
    ·right;refine (inv.rest t fun j hj hD e=> ?_).symm;have h3:=zg h2 hj;simp only [Bool.or_eq_true,bne_iff_ne,ne_eq,beq_iff_eq] at h3;rcases h3 with (h3|h3)|h3
     ·exact h3 e
     ·obtain ⟨oj,hoj,e',he',hb',hon⟩:=Region.waitsFor_spec h3
      have:=inv.head.closed j oj hoj hD e' he' hb'
      rw [hon,getD_both hu] at this;cases this
     ·subst h3;rw [getD_both hu] at hD;cases hD) ho (ye _ _ _) hW
   refine wpOp_mono (fun a' w' hk=> ?_) hop;obtain ⟨v,ha,hv,hg⟩:=hk;exact ih _ a' w' (Ls inv hdist hi hin ho (by omega) ha hv hg) (by have:=(XF (D:=D) (i:=i) n).2 hin hu;omega)
 have h0:=key n (Array.replicate l.toArray.size false) a0 w0 ⟨⟨by simp,(fun j oj _ hD=>by rw [getD_replicate_false] at hD;cases hD),fun t _ ht=>by simp only [List.size_toArray] at ht ⊢;simp [ht]⟩,hC0,rfl,rfl,fun _ _=>rfl,(fun j V hD=>by rw [getD_replicate_false] at hD;cases hD)⟩ (ZB _ n)
 rwa [show n+(l.toArray.size - n)=l.toArray.size by omega] at h0
theorem Zp{u:Value}{K:World→Prop}{ds:List Deferred}{o:Oper}{a:Act}{w:World}(hw:Region.wanted o (yielded ops a.tmps)=true)
  (h: ∀K':Act→World→Prop,(∀a' w',a'.defers=ds→(match o.dst with|some d=>a'.eval (.tmp d)|none=>undef)=u→K w'→K' a' w')→o.wp P a w K' (QC u o.dst ds K)):wpList P ops (QC u o.dst ds K) [o] a w:=by
 unfold wpList;rw [if_pos hw];exact .inl (h _ fun a' w' h1 h2 h3=>⟨rfl,h1,h2,h3⟩)
end
end
section
open Go.RowKit
theorem Ov(a b m:Int)(w:World)(ha:U64 a)(hb:U64 b):
  Calls Tryz.prog 142 #[.int .u64 a, .int .u64 b, .int .u64 m] w fun e w'=>e= .returned (.int .u64 (ZW a b m))∧w.grownBy w' none:=
 (Gr a b m w ha hb).mono fun _ _ ⟨he,n,hn⟩=>⟨he,by rw [hn];exact zf (World.grownBy.refl w none) n⟩
theorem Mr(a b m:Int)(w:World)(ha:U64 a)(hb:U64 b):
  Calls Tryz.prog 232 #[.int .u64 a, .int .u64 b, .int .u64 m] w fun e w'=>e= .returned (.int .u64 (Ys a b m))∧w.grownBy w' none:=
 (Ms a b m w ha hb).mono fun _ _ ⟨he,n,hn⟩=>⟨he,by rw [hn];exact zf (World.grownBy.refl w none) n⟩
theorem VJ(a b m:Int)(w:World)(ha:U64 a)(hb:U64 b):
  Calls Tryz.prog 139 #[.int .u64 a, .int .u64 b, .int .u64 m] w fun e w'=>e= .returned (.int .u64 (yg a b m))∧w.grownBy w' none:=
 (Zl a b m w ha hb).mono fun _ _ ⟨he,n,hn⟩=>⟨he,by rw [hn];exact zf (World.grownBy.refl w none) n⟩
theorem Ib(a m:Int)(ha:U64 a)(hm:0< m):U64 (a%m):=by
 obtain ⟨a0,a1⟩:=ha;have h1:=Int.emod_nonneg a (show m≠0 by omega);have h3:=Int.mul_nonneg (Int.le_of_lt hm) (Int.ediv_nonneg a0 (Int.le_of_lt hm));have h4:=Int.mul_ediv_add_emod a m;exact ⟨h1,by omega⟩
end
end Go.Proofs.YtkdfjkdphdfclaaGreatDoor

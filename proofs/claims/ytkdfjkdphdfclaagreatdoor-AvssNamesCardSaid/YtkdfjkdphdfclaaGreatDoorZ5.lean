/- Proves for the statement AvssNamesCardSaid, under no other condition than the statement's own, that the card avssNames holds of the program. Part 5. -/
import Derived.Test.YtkdfjkdphdfclaaGreatDoorZ4
import Derived.TacticsIn
import Derived.Maps.OwnOps
import Derived.Maps.OwnSet
import Derived.Maps.Views
set_option maxRecDepth 100000
set_option maxHeartbeats 16000000
set_option linter.unusedVariables false
set_option linter.unusedSimpArgs false
namespace Go.Proofs.YtkdfjkdphdfclaaGreatDoor
section
open Go
section
variable {P:Program} {ops:Array Oper} {md:Region.Mode} {Q:Exit→Act→World→Prop} {n nn:Nat} {a0:Act} {w0:World}
theorem Vp{F:Fence}: ∀(l:List Oper) (k:Nat) (listed:Array Bool) (a:Act) (w:World),(∀j,l[j]? =ops[k+j]?)→
  Region.seqB md ops l.length k listed=true→wpListIn F nn P ops Q l a w→wpAnyIn F nn P md ops Q l.length listed a w
 | [],_,_,_,_,_,hB,h=>⟨by simpa [Region.seqB] using hB,h⟩
 |o::l,k,listed,a,w,hl,hB,h=>by
  have h0:ops[k]? =some o:=by simpa using (hl 0).symm
  simp only [List.length_cons,Region.seqB,Bool.and_eq_true,decide_eq_true_eq] at hB;refine ⟨fun h1=>(by rw [hB.1] at h1;cases h1),fun i hi=> ?_⟩;rw [hB.1] at hi;obtain rfl:i=k:=by simpa using hi
  have hw:wpOpIn F nn P ops Q i (wpListIn F nn P ops Q l) a w:=by unfold wpOpIn;simp only [h0];exact h
  exact wpOpIn_mono (fun a' w' h'=>Vp l (i+1) _ a' w' (fun j=>by have:=hl (j+1);simpa [Nat.add_assoc,Nat.add_comm 1 j] using this) hB.2 h') hw
theorem Mk{V:Pv}{o:Oper}{a b:Act}{w:World}(hd: ∀c,o.op≠ .defer c)(hs: ∀cs b,o.op≠ .select cs b)(hdst: ∀d,o.dst=some d→d< a.tmps.size)(hsz:b.tmps.size=a.tmps.size)(hlook: ∀t∈o.looksAt ops,b.tmps[t]? =a.tmps[t]?){i:Nat}(hi:ops[i]? =some o)
  (hdf:b.defers=a0.defers) (h:wpList P ops (yi V o.dst a0.defers w) [o] b w):wpOpIn Fence.wide nn P ops Q i (fun a' w'=> ∃v,a'=a.put o.dst v∧V.p (match o.dst with|some _=>v|none=>undef) w'∧w.grownBy w' none) a w:=by
 have h2:=Ml (Q:=fun _ _ _=>False) hs hdst hsz hlook hi hdf h;unfold wpOp at h2;unfold wpOpIn;simp only [hi] at h2 ⊢;split
 ·rename_i hw;rw [if_pos hw] at h2;rcases h2 with h2|h2
  ·refine ⟨fun _ _=>trivial, ?_⟩;rw [Oper.semAt_plain _ _ _ hd];unfold Oper.wp at h2;generalize (execOp a.eval o).run P w=r at *;cases r with
   |ok x w'=>
    cases x with
    |value v=>exact h2
    |skip=>exact h2
    |defer d=>exact h2
    |enter f args=>
     refine ⟨fun h=>by simp [Fence.wide] at h,callsIn_wide.2 (Calls.mono h2 fun e w'' he=> ?_)⟩;cases e with
     |returned v=>exact he
     |panicked c=>exact he.elim
     |outgrown=>obtain ⟨_,_,hx⟩:=he;exact hx.elim
    |row row args=>
     refine ⟨fun h=>by simp [Fence.wide] at h,fun c cs _=> ?_⟩;obtain ⟨v,w'',r,s⟩:=h2 c cs;exact ⟨v,w'',r,stepsIn_wide.2 s⟩
    |round l f ts c1 c2=>exact h2.elim
    |_=>exact h2.elim
   |halt x w'=>
    cases x with
    |panic v=>exact h2.elim
    |_=>exact h2.elim
  ·obtain ⟨_,_,_,hx⟩:=h2;exact hx.elim
 ·rename_i hw;rw [if_neg hw] at h2;exact ⟨fun _ _=>trivial,h2⟩
theorem Rc{l:List Oper}(n:Nat)(hnd:Tq l.toArray=true)(hB:ZN l.toArray n a0.tmps.size=true)
  (h:QK P l.toArray n a0 w0 (fun Vs=> ∀w,w0.grownBy w none→Kq (fun a w=>wpListIn Fence.wide nn P l.toArray Q (l.drop n) a w) w Vs (l.take n) a0) [] (l.take n)):wpAnyIn Fence.wide nn P .any l.toArray Q l.toArray.size (Array.replicate l.toArray.size false) a0 w0:=by
 simp only [ZN,Bool.and_eq_true,decide_eq_true_eq] at hB;obtain ⟨⟨⟨⟨hsel,hn⟩,htail⟩,htopo⟩,hdist⟩:=hB;simp only [OG,Bool.and_eq_true] at htail;obtain ⟨hblk,hseq⟩:=htail;obtain ⟨Vs,hVl,hF,hO⟩:=QK.out h;rw [List.nil_append] at hF;simp only [List.nil_append,List.length_nil,Nat.zero_add] at hO;have hnl:n≤l.length:=by simpa using hn
 have htl:(l.take n).length=n:=by simp;omega
 have hVn:Vs.length=n:=hVl.trans htl;have hdl:(l.drop n).length=l.toArray.size - n:=by simp
 have hnext: ∀i o,i< n→l.toArray[i]? =some o→(l.take n)[i]? =some o:=fun i o hi ho=>by
  rw [List.getElem?_take,if_pos hi];simpa using ho
 have key: ∀m D a w,FF l.toArray n a0 w0 Vs D a w→cnt D n=m→wpAnyIn Fence.wide nn P .any l.toArray Q (m+(l.toArray.size - n)) D a w:=by
  intro m;induction m with
  |zero=>
   intro D a w inv hc;have hall:=xe hc;have hD:D=Array.replicate n true++Array.replicate (l.toArray.size - n) false:=by
    have hsz:=inv.head.size;refine Array.ext (by simp [hsz];omega) fun i h1 h2=> ?_
    rw [Array.getElem_append];by_cases hi:i< n
    ·have:=hall i hi
     simp [h1] at this;simp [hi,this]
    ·have:=inv.head.tail i (by omega) (by omega)
     simp [h1] at this;simp [hi,this]
   have hk: ∀(k:Nat) (V:Pv) (o:Oper),Vs[k]? =some V→(l.take n)[k]? =some o→V.p (match o.dst with|some d=>a.eval (.tmp d)|none=>undef) w:=by
    intro k V o hv ho;have hkn:k< n:=by have:=(List.getElem?_eq_some_iff.1 hv).1;omega
    have h1:=inv.known k V (hall k hkn) hv;have h2:zU l.toArray k=o.dst:=by
     have:l[k]? =some o:=by rw [List.getElem?_take,if_pos hkn] at ho;exact ho
     simp [zU,this]
    rw [h2] at h1;have h3:(match o.dst with|some d=>a.eval (.tmp d)|none=>undef)=Tc o.dst a:=by cases o.dst<;>rfl
    rw [h3];exact h1
   have hfin:=Kq.all hVl hk (hF w inv.grown);have hon:QI a ((l.take n).map (·.dst)) a0=a:=by
    refine Uj (fun t=>xZ a t _ _ inv.tsize.symm ?_) ((ye _ _ _).trans inv.defers.symm);by_cases ht:some t∈(l.take n).map (·.dst)
    ·exact .inl ht
    ·refine .inr (inv.rest t fun j hj _ e=>ht ?_).symm;have hjl:j< l.length:=by omega
     have:l[j].dst=some t:=by simpa [zU,hjl] using e
     exact List.mem_map.2 ⟨l[j],List.mem_iff_getElem?.2 ⟨j,by rw [List.getElem?_take,if_pos hj,List.getElem?_eq_getElem hjl]⟩,this⟩
   rw [hon] at hfin
   have:=Vp (md:= .any) (l.drop n) n D a w (fun j=>by simp [List.getElem?_drop]) (by rw [hdl,hD];exact hseq) hfin
   rw [hdl] at this
   rwa [Nat.zero_add]
  |succ m ih=>
   intro D a w inv hc;have hready: ∀i∈Region.ready .any l.toArray D,i< n:=by
    intro i hi;rcases Nat.lt_or_ge i n with h'|h'
    ·exact h'
    ·obtain ⟨hu,oi,hoi,hall⟩:=mem_ready.1 hi;have hlt:i< l.toArray.size:=(Array.getElem?_eq_some_iff.1 hoi).1;exfalso;obtain ⟨k,hk,hkd⟩: ∃k,k< n∧D.getD k false=false:=by
      refine Classical.byContradiction fun hno=> ?_
      have: ∀k,k≤n→cnt D k=0:=by
       intro k;induction k with
       |zero=>intro _;rfl
       |succ k ihk=>
        intro hk;have h1:D.getD k false=true:=by
         refine Classical.byContradiction fun hx=>hno ⟨k,by omega,by simpa using hx⟩
        simp only [cnt,h1,ihk (by omega)];rfl
      rw [this n (Nat.le_refl _)] at hc;omega
     have hb:=zg hblk hlt;simp only [Bool.or_eq_true,decide_eq_true_eq] at hb;have hb:=zg (hb.resolve_left (by omega)) hk;simp only [Bool.not_eq_true'] at hb;have hik:i≠k:=by omega
     have:av l.toArray k n i=true:=by
      have hav:=fun f j hj=>Qp (ops:=l.toArray) inv.head.closed inv.head.size hkd f j hj
      cases hn0:n with
      |zero=>simp [av,hik]
      |succ f=>
       simp only [av,hoi,Option.map_some,Option.getD_some,Bool.and_eq_true,bne_iff_ne];refine ⟨hik, ?_⟩;rw [Array.all_eq_true_iff_forall_mem];intro e he;by_cases hbd:Region.binds .any e=true
       ·simp [hbd,hav f e.on (hall e he hbd)]
       ·simp [hbd]
     rw [hb] at this;cases this
   have hne:Region.ready .any l.toArray D≠ []:=by
    have hex: ∃k,k< n∧D.getD k false=false∧ ∀j,j< k→D.getD j false=true:=by
     have: ∀k,k≤n→(∃q,q< k∧D.getD q false=false∧ ∀j,j< q→D.getD j false=true)∨(cnt D k=0):=by
      intro k;induction k with
      |zero=>intro _;exact .inr rfl
      |succ k ihk=>
       intro hk;rcases ihk (by omega) with ⟨q,h1,h2⟩|h0
       ·exact .inl ⟨q,by omega,h2⟩
       ·cases hq:D.getD k false with
        |true=>right;simp only [cnt,hq,h0];rfl
        |false=>exact .inl ⟨k,by omega,hq,xe h0⟩
     rcases this n (Nat.le_refl _) with ⟨q,h1,h2⟩|h0
     ·exact ⟨q,h1,h2⟩
     ·omega
    obtain ⟨k,hk,hkd,hbel⟩:=hex;have hkl:k< l.toArray.size:=by omega
    have ho:l.toArray[k]? =some l.toArray[k]:=Array.getElem?_eq_getElem hkl
    have:k∈Region.ready .any l.toArray D:=by
     refine mem_ready.2 ⟨getD_in (by rw [inv.head.size];exact hkl) hkd,_,ho,fun e he hb=>hbel _ ?_⟩;have ht:=zg htopo hk;simp only [ho,Option.map_some,Option.getD_some] at ht
     have:=Array.all_eq_true_iff_forall_mem.1 ht e he
     simpa [hb] using this
    intro e;rw [e] at this;cases this
   rw [show m+1+(l.toArray.size - n)=(m+(l.toArray.size - n))+1 by omega];refine ⟨fun e=>absurd e hne,fun i hi=> ?_⟩;have hin:=hready i hi;obtain ⟨hu,o,ho,hall⟩:=mem_ready.1 hi;obtain ⟨V,js,hV,hchk,hask⟩:=hO i o (hnext i o hin ho);simp only [Bool.and_eq_true] at hchk;obtain ⟨hpair,hlook⟩:=hchk;have hdst: ∀d,o.dst=some d→d< a.tmps.size:=by
    intro d hd
    have:=zg hdist hin
    have h2:zU l.toArray i=some d:=by simp only [zU,ho];exact hd
    rw [h2] at this;simp only [Bool.and_eq_true,decide_eq_true_eq] at this;rw [inv.tsize];exact this.1
   have hjs: ∀x:Nat×Tmp,x∈js→zU l.toArray x.1=some x.2∧D.getD x.1 false=true∧x.1< i:=by
    intro x hx
    have:=List.all_eq_true.1 hpair x hx
    simp only [Bool.and_eq_true,beq_iff_eq] at this;obtain ⟨oj,hoj,e,he,hb,hon⟩:=Region.waitsFor_spec this.2;obtain rfl:o=oj:=Option.some.inj (ho.symm.trans hoj);have ht:=zg htopo hin;simp only [ho,Option.map_some,Option.getD_some] at ht;have ht:=Array.all_eq_true_iff_forall_mem.1 ht e he;simp only [hb,Bool.not_true,Bool.false_or,decide_eq_true_eq] at ht;exact ⟨this.1,by rw [←hon];exact hall e he hb,by rw [←hon];exact ht⟩
   have hA:=hask w inv.grown;have hW:=Ask.all (b:=a) (fun x hx=>by
    obtain ⟨h1,h2,h3⟩:=hjs x hx;have hxl:x.1< Vs.length:=by omega
    have h4:Vs[x.1]? =some Vs[x.1]:=List.getElem?_eq_getElem hxl;have h5:=inv.known x.1 _ h2 h4;rw [h1] at h5
    have:(Vs.take i).getD x.1 Pv.any=Vs[x.1]:=by
     rw [List.getD_eq_getElem?_getD,List.getElem?_take,if_pos h3,h4];rfl
    rw [this];exact h5) hA
   have hop:=Mk (Q:=Q) (nn:=nn) (ops:=l.toArray) (fun c=>XS hnd i o c ho) (a0:=a0) (a:=a) (Region.noSelect_spec hsel i o · · ho) hdst ((Zw _ _ _).trans inv.tsize.symm) (fun t ht=>by
    refine xZ a t _ _ inv.tsize.symm ?_;have h1:(o.looksAt l.toArray).all (fun t=>js.any (·.2==t)||Nh l.toArray n i t)=true:=by
     simpa only [zZ,ho,Option.map_some,Option.getD_some] using hlook
    have h2:=List.all_eq_true.1 h1 t ht;simp only [Bool.or_eq_true] at h2;rcases h2 with h2|h2
    ·left;obtain ⟨x,hx,hxt⟩:=List.any_eq_true.1 h2;exact List.mem_map.2 ⟨x,hx,by rw [beq_iff_eq.1 hxt]⟩
    ·right;refine (inv.rest t fun j hj hD e=> ?_).symm;have h3:=zg h2 hj;simp only [Bool.or_eq_true,bne_iff_ne,ne_eq,beq_iff_eq] at h3;rcases h3 with (h3|h3)|h3
     ·exact h3 e
     ·obtain ⟨oj,hoj,e',he',hb',hon⟩:=Region.waitsFor_spec h3
      have:=inv.head.closed j oj hoj hD e' he' hb'
      rw [hon,getD_both hu] at this;cases this
     ·subst h3;rw [getD_both hu] at hD;cases hD) ho (ye _ _ _) hW
   refine wpOpIn_mono (fun a' w' hk=> ?_) hop;obtain ⟨v,ha,hv,hg⟩:=hk;exact ih _ a' w' (RJ inv hdist hi hin ho hV (by omega) ha hv hg) (by have:=(XF (D:=D) (i:=i) n).2 hin hu;omega)
 have h0:=key n (Array.replicate l.toArray.size false) a0 w0 ⟨⟨by simp,(fun j oj _ hD=>by rw [getD_replicate_false] at hD;cases hD),fun t _ ht=>by simp only [List.size_toArray] at ht ⊢;simp [ht]⟩,World.grownBy.refl w0 none,rfl,rfl,fun _ _=>rfl,(fun j V hD=>by rw [getD_replicate_false] at hD;cases hD)⟩ (ZB _ n)
 rwa [show n+(l.toArray.size - n)=l.toArray.size by omega] at h0
def GD(nn:Nat)(P:Program)(ops:Array Oper)(Q:Exit→Act→World→Prop)(w:World):List Pv→List Oper→Act→Prop
 |V::Vs,o::os,a=> ∀x,V.p x w→GD nn P ops Q w Vs os (a.put o.dst x)
 |_,os,a=>wpListIn Fence.wide nn P ops Q os a w
theorem GD.cut{w:World}: ∀{Vs:List Pv} {os:List Oper} {a:Act},Vs.length≤os.length→GD nn P ops Q w Vs os a→Kq (fun a w=>wpListIn Fence.wide nn P ops Q (os.drop Vs.length) a w) w Vs (os.take Vs.length) a
 | [],os,a,_,h=>by
  have h:wpListIn Fence.wide nn P ops Q os a w:=by cases os<;>exact h
  exact h
 |V::Vs, [],a,hl,_=>by simp at hl
 |V::Vs,o::os,a,hl,h=>fun x hx=>GD.cut (Vs:=Vs) (os:=os) (by simpa using hl) (h x hx)
theorem ZQ{l:List Oper}{id:Nat}(n:Nat)(hm:P.follows .mixedOrders=true)(hnd:Tq l.toArray=true)(hB:ZN l.toArray n a0.tmps.size=true)
  (h:zn P l.toArray n a0 w0.drew (fun Vs=> ∀w,w0.drew.grownBy w none→GD nn P l.toArray Q w Vs l a0) n [] l):(Code.region id l.toArray true).wpIn Fence.wide nn P Q a0 w0:=by
 refine wpIn_region_any hm ?_;obtain ⟨hM,hn⟩:=TU.cut (zn.up h);refine Rc n hnd hB (QK.weak hM fun Ws hW hF w hw=> ?_);have hl:Ws.length=n:=by simp only [List.length_nil,Nat.zero_add] at hW;rw [hW];simp;omega
 have:=GD.cut (by rw [hl];exact hn) (hF w hw)
 rwa [hl] at this
end
end
section
open Go Go.RowKit
section
variable {F:Fence} {n:Nat} {P:Program}
def Pz{α:Type}(F:Fence)(n:Nat)(P:Program)(g:Nat)(lb:Array Value)(encs:α→Array Value)(Fx:α→World→Prop)(Kp:World→World→Prop)(S:List α→Prop)(N:Nat)(w:World):Prop:=
 ∀(l:Nat) (J:List α→World→Prop) (W:World),Below w.heap.size w W→AbidesFrom W.heap.size J→
  (∀pre x V,J pre V→Fx x V→pre.length< N→YieldAt F (n - 1) P l (encs x) V fun e V'=>e= .returned (.bool true)∧J (pre++ [x]) V'∧Kp V V')→
  J [] W→CallsIn F n P g (#[.func (.yield l) #[] #[]]++lb) W fun e W'=>(∃v,e= .returned v)∧ ∃xs,S xs∧J xs W'
def IP{α:Type}(B:Nat)(Kp:World→World→Prop)(I:List α→World→Prop)(xs:List α)(W:World):Exit→Act→World→Prop:=fun e _ W'=>e= .normal∧KeepsFrom B W W'∧Kp W W'∧I xs W'
structure NS (B:Nat) (r:Loop) (W:World):Prop where
 lp:W.heap[B+1]? =some (.loop r)
 df:W.heap[B]? =some (.deferred (some []))
theorem NS.from{B:Nat}{r:Loop}{W W':World}(h:NS B r W)(hk:KeepsFrom B W W'):NS B r W':=⟨hk.same _ _ (by omega) h.lp rfl,hk.same _ _ (Nat.le_refl _) h.df rfl⟩
theorem NS.put{B:Nat}{r:Loop}{W:World}(h:NS B r W)(r':Loop):NS B r' (W.putObj (B+1) (.loop r')):=⟨World.putObj_heap_same (Array.getElem?_eq_some_iff.1 h.lp).1,(World.putObj_heap_other (by omega)).trans h.df⟩
theorem NS.walk{B:Nat}{r:Loop}{W W':World}{row:Option Nat}(h:NS B r W)(hg:W.grownBy W' row)(hr: ∀k,row=some k→ ∃o:Obj,W.heap[k]? =some o∧o.isWalk=true):NS B r W':=⟨(grownBy_keeps hg hr h.lp rfl).trans h.lp,(grownBy_keeps hg hr h.df rfl).trans h.df⟩
theorem xV{α:Type}{g:Operand}{ps:Array Tmp}{assign body:Code}{Q:Exit→Act→World→Prop}{a:Act}{w:World}(hro:F.round=none)(h1:1≤n){gf:Nat}{lb:Array Value}(hg:a.eval g= .func (.func gf) #[] lb)(hFg:F.fn gf)
  (eg: ∀args w,(callFunc gf args).run P w= .ok (.enter gf args) w) {encs:α→Array Value} {Fx:α→World→Prop} {Kp:World→World→Prop} {S:List α→Prop} {N:Nat} {w0:World} (hseq:Pz F (n - 1) P gf lb encs Fx Kp S N w0)
  (hKt: ∀{A B C:World},Kp A B→Kp B C→Kp A C) (hKb: ∀(W:World) (l:Nat) (o o':Obj),w.heap.size≤l→W.heap[l]? =some o→o.isCells=false→o.isWalk=false→Kp W (W.putObj l o')) (hb0:Below w0.heap.size w0 w) (hps: ∀x,(encs x).size=ps.size)
  (I:List α→World→Prop) (hI:OwnFrom w.heap.size I) (h0:I [] w) (Ax:α→Act→World→Prop) (hAx: ∀x a',OwnFrom w.heap.size (fun (_:Unit) W=>Ax x a' W))
  (hassign: ∀(l:Nat) (pre:List α) (x:α) (W:World) (K:Act→World→Prop),I pre W→Fx x W→(∀a' W',KeepsFrom w.heap.size W W'→Kp W W'→I pre W'→Ax x a' W'→K a' W')→
   assign.wpIn (F.inRound l) (n - 1 - 1) P (Exit.then K (fun _ _ _=>False)) {tmps:=(ps.zip (encs x)).foldl (fun t (p,v)=>t.setIfInBounds p v) a.tmps,defers:= []} W)
  (hbody: ∀(l:Nat) (pre:List α) (x:α) (a':Act) (W:World),w.heap.size≤l→I pre W→Ax x a' W→pre.length< N→body.wpIn (F.inRound l) (n - 1 - 1) P (IP w.heap.size Kp I (pre++ [x]) W) a' W)
  (hdone: ∀(D:Nat) (xs:List α) (W:World),w.heap.size≤D→S xs→I xs W→W.heap[D]? =some (.deferred (some []))→Q .normal {a with defers:={target:= .collected D,args:= #[]}::a.defers} W):
  (Code.rangeFunc g ps assign body).wpIn F n P Q a w:=by
 refine wpIn_rangeFunc fun fn hfn=> ?_
 rw [hro]
 let rec0:Loop:={state:= .ready,pending:=none,fn,tmps:=a.tmps,params:=ps,assign,body,defers:=w.heap.size}
 let V0:=(w.alloc (.deferred (some []))).alloc (.loop rec0)
 have hR0:NS w.heap.size rec0 V0:=⟨by have:=World.alloc_heap_new (w.alloc (.deferred (some []))) (.loop rec0);rwa [World.size_alloc] at this,(Below.heap_alloc _ _ _ (by simp)).trans (World.alloc_heap_new w _)⟩;have hV0:V0.heap.size=w.heap.size+2:=by simp [V0]
 have hI0:I [] V0:=hI.alloc _ (hI.alloc _ h0);have hB0:Below w0.heap.size w0 V0:=hb0.trans ((((Below.refl _ w).alloc (Nat.le_refl _) _).alloc (by simp) _).mono hb0.size);refine ⟨w.heap.size+1, [{target:= .collected w.heap.size,args:= #[]}],V0,{target:= .fn (.func gf) lb,args:= #[.func (.yield (w.heap.size+1)) #[] #[]]},V0,gf, #[.func (.yield (w.heap.size+1)) #[] #[]]++lb,V0,run_enterLoop_outer _ _ _ _ _, ?_, ?_, ?_,fun _=>h1, ?_⟩
 ·simp only [resolve,hg];simp [go_sem]
 ·intro f' hf';simp [Target.leads] at hf';subst hf';exact hFg
 ·simp [invoke,go_sem,eg]
 refine (hseq (w.heap.size+1) (fun pre W=>I pre W∧NS w.heap.size rec0 W) V0 hB0 (fun s A B row hs hgr hr=>⟨hI s A B row hs.1 hgr fun r e=> ?_,hs.2.walk hgr fun r e=>(hr r e).2⟩) ?_ ⟨hI0,hR0⟩).mono ?_
 ·obtain ⟨h2,o,ho,hw⟩:=hr r e;exact ⟨by rw [hV0] at h2;omega,o,ho,Obj.not_cells_of_walk hw⟩
 ·rintro pre x V ⟨hi,hr⟩ hfx hlen;refine ⟨fn,_,assign,body,run_yield hr.lp (hps x),roundIn_of_wpIn hfn (hassign _ pre x V _ hi hfx fun a' V1 hk1 hp1 hi1 hx1=> ?_)⟩;have hr1:=hr.from hk1;refine ⟨_,run_beginRound hr1.lp rfl, ?_⟩;have hr2:=hr1.put {rec0 with state:= .busy};have hp2:=hKb V1 (w.heap.size+1) _ (.loop {rec0 with state:= .busy}) (by omega) hr1.lp rfl rfl;refine wpIn_mono (hbody _ pre x a' _ (by omega) (hI.putObj _ hi1 (by omega) hr1.lp rfl) ((hAx x a').putObj (s:=()) _ hx1 (by omega) hr1.lp rfl) hlen) ?_;rintro e a3 V3 ⟨rfl,hk3,hp3,hi3⟩;have hr3:=hr2.from hk3;refine ⟨_,_,run_endRound none hr3.lp,rfl,⟨hI.putObj _ hi3 (by omega) hr3.lp rfl,hr3.put rec0⟩,hKt hp1 (hKt (hKt hp2 hp3) (hKb _ _ _ _ (by omega) hr3.lp rfl rfl))⟩
 ·rintro e V2 ⟨⟨v,rfl⟩,xs,hS,hi,hr⟩;exact ⟨none,_,run_endLoop hr.lp (by simp [rec0]),hdone _ xs _ (Nat.le_refl _) hS (hI.putObj _ hi (by omega) hr.lp rfl) ((World.putObj_heap_other (by omega)).trans hr.df)⟩
end
end
section
open Go Go.RowKit Go.Shelf
attribute [local go_sem] Oper.semAt_some
def yK(q:Int)(xs:List Int)(i:Nat)(at_:Int)(k:Nat):List (Int×Int):=((List.range k).filter fun j=>j !=i).map fun j=>(Ys (xs[i]?.getD 0) (xs[j]?.getD 0) q,Ys at_ (xs[j]?.getD 0) q)
def xY(q:Int)(xs:List Int)(i:Nat)(at_:Int):List (Int×Int):=yK q xs i at_ xs.length
theorem Tm(q:Int)(xs:List Int)(i:Nat)(at_:Int):yK q xs i at_ (i+1)=yK q xs i at_ i:=by simp [yK,List.range_succ]
theorem Tl(q:Int)(xs:List Int)(i:Nat)(at_:Int)(k:Nat)(h:k≠i):yK q xs i at_ (k+1)=yK q xs i at_ k++ [(Ys (xs[i]?.getD 0) (xs[k]?.getD 0) q,Ys at_ (xs[k]?.getD 0) q)]:=by simp [yK,List.range_succ,h]
theorem VG(q:Int)(xs:List Int)(i:Nat)(at_:Int)(k:Nat):(yK q xs i at_ k).length≤k:=by
 simp only [yK,List.length_map];exact Nat.le_trans (List.length_filter_le _ _) (by simp)
theorem OW(A:Option Addr)(n c:Nat)(i at_ q:Int)(w:World):
  Calls Tryz.prog 241 #[.slice A n c, .int .i64 i, .int .u64 at_, .int .u64 q] w fun e w'=>e= .returned (.func (.func 244) #[] #[.pointer (some ⟨w.heap.size,0,none⟩), .pointer (some ⟨w.heap.size+1,0,none⟩), .pointer (some ⟨w.heap.size+1+1+1,0,none⟩), .pointer (some ⟨w.heap.size+1+1,0,none⟩)])∧w'=(((w.alloc (.cells #[.slice A n c] 31)).alloc (.cells #[.int .i64 i] 3)).alloc (.cells #[.int .u64 at_] 22)).alloc (.cells #[.int .u64 q] 22):=by
 go_enter Tryz.func241,Tryz.ntmps241;go_wp2;go_ret;exact ⟨rfl,rfl⟩
def Kp4(n₀ B1 B2 B3 B4:Nat)(A B:World):Prop:=Below n₀ A B∧B.heap[B1]? =A.heap[B1]? ∧B.heap[B2]? =A.heap[B2]? ∧B.heap[B3]? =A.heap[B3]? ∧B.heap[B4]? =A.heap[B4]?
theorem Kp4.refl(n₀ B1 B2 B3 B4:Nat)(A:World):Kp4 n₀ B1 B2 B3 B4 A A:=⟨Below.refl _ _,rfl,rfl,rfl,rfl⟩
theorem Kp4.trans{n₀ B1 B2 B3 B4:Nat}{A B C:World}(h:Kp4 n₀ B1 B2 B3 B4 A B)(k:Kp4 n₀ B1 B2 B3 B4 B C):Kp4 n₀ B1 B2 B3 B4 A C:=⟨h.1.trans k.1,k.2.1.trans h.2.1,k.2.2.1.trans h.2.2.1,k.2.2.2.1.trans h.2.2.2.1,k.2.2.2.2.trans h.2.2.2.2⟩
theorem Kp4.grown{n₀ B1 B2 B3 B4:Nat}{A B:World}(hg:A.grownBy B none)(hn:n₀≤A.heap.size)(h1:B1< A.heap.size)(h2:B2< A.heap.size)(h3:B3< A.heap.size)(h4:B4< A.heap.size):Kp4 n₀ B1 B2 B3 B4 A B:=
 ⟨(zy hg).mono hn,hg.block _ h1 (by simp),hg.block _ h2 (by simp),hg.block _ h3 (by simp),hg.block _ h4 (by simp)⟩
theorem Kp4.b{n₀ B1 B2 B3 B4:Nat}{w:World}(hn:n₀≤w.heap.size)(h1:B1< w.heap.size)(h2:B2< w.heap.size)(h3:B3< w.heap.size)(h4:B4< w.heap.size)(W:World)(l:Nat)(o o':Obj)(hl:w.heap.size≤l)(h:W.heap[l]? =some o)(k1:o.isCells=false)(k2:o.isWalk=false):Kp4 n₀ B1 B2 B3 B4 W (W.putObj l o'):=by
 have hlt:=(Array.getElem?_eq_some_iff.1 h).1;have hg:=grownBy_putObj' W l o';exact ⟨belowK_b hn W l o o' hl h k1 k2,hg.block _ (by omega) (fun e=>by injection e with e;omega),hg.block _ (by omega) (fun e=>by injection e with e;omega),hg.block _ (by omega) (fun e=>by injection e with e;omega),hg.block _ (by omega) (fun e=>by injection e with e;omega)⟩
theorem Pb(nn:Nat)(hn:1≤nn)(B1 B2 B3 B4:Nat)(v:Value)(xs:List Int)(i:Nat)(at_ q:Int)(X:Nat→Prop)(w₀ w1:World)(h01:Below w₀.heap.size w₀ w1)(hb1:Boxed w1 B1 31 v)(hb2:Boxed w1 B2 3 (.int .i64 i))(hb3:Boxed w1 B3 22 (.int .u64 q))(hb4:Boxed w1 B4 22 (.int .u64 at_))(hxs:Sl ze X w₀ v xs)(hi:i< xs.length)(hu:U64 at_):
  Pz Fence.wide nn Tryz.prog 244 #[.pointer (some ⟨B1,0,none⟩), .pointer (some ⟨B2,0,none⟩), .pointer (some ⟨B3,0,none⟩), .pointer (some ⟨B4,0,none⟩)] (fun x:Int×Int=> #[.int .u64 x.1, .int .u64 x.2]) (fun x _=>U64 x.1∧U64 x.2) (Kp4 w₀.heap.size B1 B2 B3 B4) (fun ys=>ys=xY q xs i at_) xs.length w1:=by
 intro l J W hW hJ hY h0;refine callsIn_of_wp Tryz.func244 rfl trivial ?_ rfl;simp only [Tryz.ntmps244,List.size_toArray,List.length_cons,List.length_nil,Nat.reduceAdd,Nat.reduceSub,Array.replicate_succ,Array.replicate_zero,List.push_toArray,List.append_toArray,List.nil_append,List.cons_append];have HW1:Hid (Boxed W B1 31 v):=za ((hW.5 B1 hb1.lt).trans hb1);have HW2:Hid (Boxed W B2 3 (.int .i64 i)):=za ((hW.5 B2 hb2.lt).trans hb2);have HW3:Hid (Boxed W B3 22 (.int .u64 q)):=za ((hW.5 B3 hb3.lt).trans hb3);have HW4:Hid (Boxed W B4 22 (.int .u64 at_)):=za ((hW.5 B4 hb4.lt).trans hb4);have HG0:Hid (w₀.grownBy W none):=za (zl (h01.trans (hW.mono h01.size)));have HXS:=za hxs;have HUA:=za hu;obtain ⟨g,o,c,_,e,_,_,_,_⟩:=hxs.at (k:=i) hi;subst e;obtain ⟨n,hnn⟩: ∃n,n=xs.length:=⟨_,rfl⟩;have HN:=za hnn;rw [←hnn] at HXS HW1 hY hi;have ca:=HW1.out.cell;have hn9:n≤9223372036854775807:=by rw [hnn];exact hxs.bound
 have HH0:=za h0;have hinI:(i:Int)< (n:Int):=by omega
 have hi0:(0:Int)≤(i:Int):=by omega
 clear hb1 hb2 hb3 hb4 hxs h0 hnn hu
 gi_wp2
 gi_loopw [10] (fun s10 wr=> ∃(k:Nat) (pre:List (Int×Int)),k≤n∧s10= .int .i64 k∧Hid (pre=yK q xs i at_ k∧J pre wr∧Kp4 w₀.heap.size B1 B2 B3 B4 W wr)) (fun s10 _=>n - (intOf s10).toNat)
 case atStart=>exact ⟨0, [],by omega,rfl,za ⟨rfl,HH0.out,Kp4.refl _ _ _ _ _ _⟩⟩
 case round=>
  rename World=>wr
  obtain ⟨k,pre,hk,rfl,HX⟩:=hrel;by_cases hlt:k< n
  ·have hki:(k:Int)< (n:Int):=by omega
   have hk0:(0:Int)≤(k:Int):=by omega
   have hpl:pre.length≤k:=by rw [HX.out.1];exact VG _ _ _ _ _
   have hJk:J pre wr.drew:=hJ _ wr wr.drew none HX.out.2.1 (zf (World.grownBy.refl wr none) 1) (by simp);have HGr:Hid (w₀.grownBy wr.drew none):=za (zf (zl ((zy HG0.out).trans HX.out.2.2.1)) 1);have HB1:Hid (Boxed wr.drew B1 31 (.slice (some ⟨g,o,none⟩) n c)):=za (HX.out.2.2.2.1.trans HW1.out);have HB2:Hid (Boxed wr.drew B2 3 (.int .i64 i)):=za (HX.out.2.2.2.2.1.trans HW2.out);have HB3:Hid (Boxed wr.drew B3 22 (.int .u64 q)):=za (HX.out.2.2.2.2.2.1.trans HW3.out);have HB4:Hid (Boxed wr.drew B4 22 (.int .u64 at_)):=za (HX.out.2.2.2.2.2.2.trans HW4.out);have HKD:Hid (Kp4 w₀.heap.size B1 B2 B3 B4 W wr.drew):=za (HX.out.2.2.trans ⟨⟨rfl,rfl,rfl,Nat.le_refl _,fun _ _=>rfl⟩,rfl,rfl,rfl,rfl⟩);have hcell: ∀j (hj:j< xs.length), ∀w',wr.drew.grownBy w' none→w'.cell? ⟨g,o+j,none⟩=some (.int .u64 xs[j])∧U64 xs[j]:=fun j hj w' hw=>by
    obtain ⟨g',o',c',e,_,_,hcu,hu⟩:=(HXS.out.kept (HGr.out.trans hw)).atU hj;injection e with e1 e2 e3
    injection e1 with e1
    injection e1 with e4 e5
    subst e4 e5;exact ⟨hcu,hu⟩
   have hkx:k< xs.length:=by rw [←HN.out];exact hlt
   have hix:i< xs.length:=by rw [←HN.out];exact hi
   have hck:wr.cell? ⟨g,o+k,none⟩=some (.int .u64 xs[k]):=(hcell k hkx wr.drew (World.grownBy.refl _ _)).1;have HUK:=za (hcell k hkx wr.drew (World.grownBy.refl _ _)).2;have HUI:=za (hcell i hix wr.drew (World.grownBy.refl _ _)).2;have HXI:Hid (∀w',wr.drew.grownBy w' none→w'.cell? ⟨g,o+i,none⟩=some (.int .u64 xs[i])):=za (fun w' hw=>(hcell i hix w' hw).1);clear hcell ca;by_cases hki2:k=i
   ·subst hki2;have HPN:Hid (pre=yK q xs k at_ (k+1)):=za (by rw [Tm];exact HX.out.1);have hd:((k:Int) !=(k:Int))=false:=by simp
    have HJD:=za (fun w' (hw:wr.drew.grownBy w' none)=>hJ pre wr.drew w' none hJk hw (by simp));have HKE:=za (fun w' (hw:wr.drew.grownBy w' none)=>HKD.out.trans (Kp4.grown hw HGr.out.size HB1.out.lt HB2.out.lt HB3.out.lt HB4.out.lt));generalize xs[k]=xk at *;clear hJk HX
    gi_wp2
    refine wpIn_wide.2 ?_;refine Zf 19 ?_;refine mP0 (.int .i64 (k:Int)) ?_;refine mQ0 (.int .i64 (k:Int)) (fun w' hw' K hK=> ?_) ?_
    ·have h1c:=(HB1.out.kept hw' (by simp)).cell;have h2c:=(HB2.out.kept hw' (by simp)).cell;have h3c:=(HB3.out.kept hw' (by simp)).cell;have h4c:=(HB4.out.kept hw' (by simp)).cell;go_simp;exact hK _ rfl rfl
    refine zn.step (Pv.eq (.bool false)) [(0,15),(1,16)] (by kernel_rfl) (fun w' hw'=> ?_) ?_
    ·rintro _ rfl;rintro _ rfl;refine zq rfl fun K hK=> ?_
     go_simp;exact hK _ _ rfl rfl gRf
    refine zn.step (Pv.eq (.bool false)) [(2,17)] (by kernel_rfl) (fun w' hw'=> ?_) ?_
    ·rintro _ rfl;refine zq rfl fun K hK=> ?_
     go_simp;exact hK _ _ rfl rfl gRf
    refine zn.step (Pv.eq (undef)) [(3,18)] (by kernel_rfl) (fun w' hw'=> ?_) ?_
    ·rintro _ rfl;exact zc rfl rfl rfl
    refine zn.step (Pv.eq (undef)) [(3,18)] (by kernel_rfl) (fun w' hw'=> ?_) ?_
    ·rintro _ rfl;exact zc rfl rfl rfl
    refine zn.step (Pv.eq (undef)) [(3,18)] (by kernel_rfl) (fun w' hw'=> ?_) ?_
    ·rintro _ rfl;exact zc rfl rfl rfl
    refine zn.step (Pv.eq (undef)) [(3,18),(5,20),(6,21)] (by kernel_rfl) (fun w' hw'=> ?_) ?_
    ·rintro _ rfl;rintro _ rfl;rintro _ rfl;exact zc rfl rfl rfl
    refine zn.step (Pv.eq (undef)) [(3,18),(7,22)] (by kernel_rfl) (fun w' hw'=> ?_) ?_
    ·rintro _ rfl;rintro _ rfl;exact zc rfl rfl rfl
    refine zn.step (Pv.eq (undef)) [(3,18)] (by kernel_rfl) (fun w' hw'=> ?_) ?_
    ·rintro _ rfl;exact zc rfl rfl rfl
    refine zn.step (Pv.eq (undef)) [(3,18)] (by kernel_rfl) (fun w' hw'=> ?_) ?_
    ·rintro _ rfl;exact zc rfl rfl rfl
    refine zn.step (Pv.eq (undef)) [(3,18),(8,23),(9,24),(10,25)] (by kernel_rfl) (fun w' hw'=> ?_) ?_
    ·rintro _ rfl;rintro _ rfl;rintro _ rfl;rintro _ rfl;exact zc rfl rfl rfl
    refine zn.step (Pv.eq (undef)) [(3,18)] (by kernel_rfl) (fun w' hw'=> ?_) ?_
    ·rintro _ rfl;exact zc rfl rfl rfl
    refine zn.step (Pv.eq (undef)) [(3,18)] (by kernel_rfl) (fun w' hw'=> ?_) ?_
    ·rintro _ rfl;exact zc rfl rfl rfl
    refine zn.step (Pv.eq (undef)) [(3,18)] (by kernel_rfl) (fun w' hw'=> ?_) ?_
    ·rintro _ rfl;exact zc rfl rfl rfl
    refine zn.step (Pv.eq (undef)) [(3,18),(12,27),(13,28),(14,29)] (by kernel_rfl) (fun w' hw'=> ?_) ?_
    ·rintro _ rfl;rintro _ rfl;rintro _ rfl;rintro _ rfl;exact zc rfl rfl rfl
    refine zn.step (Pv.eq (undef)) [(3,18),(4,19),(11,26),(15,30)] (by kernel_rfl) (fun w' hw'=> ?_) ?_
    ·rintro _ rfl;rintro _ rfl;rintro _ rfl;rintro _ rfl;exact zc rfl rfl rfl
    refine zn.step (Pv.eq (undef)) [(3,18),(16,31)] (by kernel_rfl) (fun w' hw'=> ?_) ?_
    ·rintro _ rfl;rintro _ rfl;exact zc rfl rfl rfl
    refine zn.step (Pv.eq (.bool false)) [(3,18),(17,32)] (by kernel_rfl) (fun w' hw'=> ?_) ?_
    ·rintro _ rfl;rintro _ rfl;refine zq rfl fun K hK=> ?_
     go_simp;exact hK _ _ rfl rfl gRf
    intro w3 hw3
    iterate 18 (intro _ _)
    rintro _ rfl;have HJ3:=za (HJD.out w3 hw3);have HK3:=za (HKE.out w3 hw3);clear hw3;refine wpList_nil ?_;simp only [Act.put,sAa,sAb,sAc];go_wp2_with fail
    gi_wp2
    exact ⟨⟨k+1,pre,by omega,by go_num,za ⟨HPN.out,HJ3.out,HK3.out⟩⟩,by simp [intOf];omega⟩
   ·have HPN:Hid (pre++ [(Ys xs[i] xs[k] q,Ys at_ xs[k] q)]=yK q xs i at_ (k+1)):=za (by rw [Tl _ _ _ _ _ hki2,HX.out.1,List.getElem?_eq_getElem hkx,List.getElem?_eq_getElem hix];rfl);have hd:((k:Int) !=(i:Int))=true:=by simp;omega
    have HRY:=za (fun w' (hw:wr.drew.grownBy w' none)=>hY pre (Ys xs[i] xs[k] q,Ys at_ xs[k] q) w' (hJ pre wr.drew w' none hJk hw (by simp)) ⟨Tg _ _ _,Tg _ _ _⟩ (by omega));have HKE:=za (fun w' (hw:wr.drew.grownBy w' none)=>HKD.out.trans (Kp4.grown hw HGr.out.size HB1.out.lt HB2.out.lt HB3.out.lt HB4.out.lt));obtain ⟨xk,hxk⟩: ∃y,y=xs[k]:=⟨_,rfl⟩;obtain ⟨xi,hxi⟩: ∃y,y=xs[i]:=⟨_,rfl⟩;rw [←hxk] at hck HUK HPN HRY;rw [←hxi] at HUI HXI HPN HRY;clear hJk HX hxk hxi
    gi_wp2
    refine ZQ 16 (by kernel_rfl) (by kernel_rfl) (by kernel_rfl) ?_;refine mP0 (.int .i64 (k:Int)) ?_;refine mQ0 (.int .i64 (i:Int)) (fun w' hw' K hK=> ?_) ?_
    ·have h1c:=(HB1.out.kept hw' (by simp)).cell;have h2c:=(HB2.out.kept hw' (by simp)).cell;have h3c:=(HB3.out.kept hw' (by simp)).cell;have h4c:=(HB4.out.kept hw' (by simp)).cell;have hxi:=HXI.out w' hw';go_simp;exact hK _ rfl rfl
    refine zn.step (Pv.eq (.bool true)) [(0,15),(1,16)] (by kernel_rfl) (fun w' hw'=> ?_) ?_
    ·rintro _ rfl;rintro _ rfl;refine zq rfl fun K hK=> ?_
     go_simp;exact hK _ _ rfl rfl gRf
    refine zn.step (Pv.eq (.bool true)) [(2,17)] (by kernel_rfl) (fun w' hw'=> ?_) ?_
    ·rintro _ rfl;refine zq rfl fun K hK=> ?_
     go_simp;exact hK _ _ rfl rfl gRf
    refine zn.step (Pv.eq (.func (.yield l) #[] #[])) [(3,18)] (by kernel_rfl) (fun w' hw'=> ?_) ?_
    ·rintro _ rfl;refine zq rfl fun K hK=> ?_
     go_simp;exact hK _ _ rfl rfl gRf
    refine zn.step (Pv.eq (.slice (some ⟨g,o,none⟩) n c)) [(3,18)] (by kernel_rfl) (fun w' hw'=> ?_) ?_
    ·rintro _ rfl;refine zq rfl fun K hK=> ?_
     have h1c:=(HB1.out.kept hw' (by simp)).cell;have h2c:=(HB2.out.kept hw' (by simp)).cell;have h3c:=(HB3.out.kept hw' (by simp)).cell;have h4c:=(HB4.out.kept hw' (by simp)).cell;have hxi:=HXI.out w' hw';go_simp;exact hK _ _ rfl rfl gRf
    refine zn.step (Pv.eq (.int .i64 (i:Int))) [(3,18)] (by kernel_rfl) (fun w' hw'=> ?_) ?_
    ·rintro _ rfl;refine zq rfl fun K hK=> ?_
     have h1c:=(HB1.out.kept hw' (by simp)).cell;have h2c:=(HB2.out.kept hw' (by simp)).cell;have h3c:=(HB3.out.kept hw' (by simp)).cell;have h4c:=(HB4.out.kept hw' (by simp)).cell;have hxi:=HXI.out w' hw';go_simp;exact hK _ _ rfl rfl gRf
    refine zn.step (Pv.eq (.pointer (some ⟨g,o+i,none⟩))) [(3,18),(5,20),(6,21)] (by kernel_rfl) (fun w' hw'=> ?_) ?_
    ·rintro _ rfl;rintro _ rfl;rintro _ rfl;refine zq rfl fun K hK=> ?_
     go_simp;exact hK _ _ rfl rfl gRf
    refine zn.step (Pv.eq (.int .u64 xi)) [(3,18),(7,22)] (by kernel_rfl) (fun w' hw'=> ?_) ?_
    ·rintro _ rfl;rintro _ rfl;refine zq rfl fun K hK=> ?_
     have h1c:=(HB1.out.kept hw' (by simp)).cell;have h2c:=(HB2.out.kept hw' (by simp)).cell;have h3c:=(HB3.out.kept hw' (by simp)).cell;have h4c:=(HB4.out.kept hw' (by simp)).cell;have hxi:=HXI.out w' hw';go_simp;exact hK _ _ rfl rfl gRf
    refine zn.step (Pv.eq (.int .u64 xk)) [(3,18)] (by kernel_rfl) (fun w' hw'=> ?_) ?_
    ·rintro _ rfl;refine zq rfl fun K hK=> ?_
     go_simp;exact hK _ _ rfl rfl gRf
    refine zn.step (Pv.eq (.int .u64 q)) [(3,18)] (by kernel_rfl) (fun w' hw'=> ?_) ?_
    ·rintro _ rfl;refine zq rfl fun K hK=> ?_
     have h1c:=(HB1.out.kept hw' (by simp)).cell;have h2c:=(HB2.out.kept hw' (by simp)).cell;have h3c:=(HB3.out.kept hw' (by simp)).cell;have h4c:=(HB4.out.kept hw' (by simp)).cell;have hxi:=HXI.out w' hw';go_simp;exact hK _ _ rfl rfl gRf
    refine zn.step (Pv.eq (.int .u64 (Ys xi xk q))) [(3,18),(8,23),(9,24),(10,25)] (by kernel_rfl) (fun w' hw'=> ?_) ?_
    ·rintro _ rfl;rintro _ rfl;rintro _ rfl;rintro _ rfl;refine zq rfl fun K hK=> ?_
     go_simp;refine (Mr xi xk q w' HUI.out HUK.out).mono ?_;rintro e w3 ⟨rfl,hg⟩;exact hK _ _ rfl rfl hg
    refine zn.step (Pv.eq (.int .u64 at_)) [(3,18)] (by kernel_rfl) (fun w' hw'=> ?_) ?_
    ·rintro _ rfl;refine zq rfl fun K hK=> ?_
     have h1c:=(HB1.out.kept hw' (by simp)).cell;have h2c:=(HB2.out.kept hw' (by simp)).cell;have h3c:=(HB3.out.kept hw' (by simp)).cell;have h4c:=(HB4.out.kept hw' (by simp)).cell;have hxi:=HXI.out w' hw';go_simp;exact hK _ _ rfl rfl gRf
    refine zn.step (Pv.eq (.int .u64 xk)) [(3,18)] (by kernel_rfl) (fun w' hw'=> ?_) ?_
    ·rintro _ rfl;refine zq rfl fun K hK=> ?_
     go_simp;exact hK _ _ rfl rfl gRf
    refine zn.step (Pv.eq (.int .u64 q)) [(3,18)] (by kernel_rfl) (fun w' hw'=> ?_) ?_
    ·rintro _ rfl;refine zq rfl fun K hK=> ?_
     have h1c:=(HB1.out.kept hw' (by simp)).cell;have h2c:=(HB2.out.kept hw' (by simp)).cell;have h3c:=(HB3.out.kept hw' (by simp)).cell;have h4c:=(HB4.out.kept hw' (by simp)).cell;have hxi:=HXI.out w' hw';go_simp;exact hK _ _ rfl rfl gRf
    refine zn.step (Pv.eq (.int .u64 (Ys at_ xk q))) [(3,18),(12,27),(13,28),(14,29)] (by kernel_rfl) (fun w' hw'=> ?_) ?_
    ·rintro _ rfl;rintro _ rfl;rintro _ rfl;rintro _ rfl;refine zq rfl fun K hK=> ?_
     go_simp;refine (Mr at_ xk q w' HUA.out HUK.out).mono ?_;rintro e w3 ⟨rfl,hg⟩;exact hK _ _ rfl rfl hg
    intro w3 hw3;intro y0 e0 y1 e1 y2 e2 y3 e3 y4 e4 y5 e5 y6 e6 y7 e7 y8 e8 y9 e9 y10 e10 y11 e11 y12 e12 y13 e13 y14 e14 y15 e15;show wpListIn Fence.wide nn Tryz.prog _ _ _ _ w3;have e0:y0= .int .i64 (k:Int):=e0;subst e0;have e1:y1= .int .i64 (i:Int):=e1;subst e1;have e2:y2= .bool true:=e2;subst e2;have e3:y3= .bool true:=e3;subst e3;have e4:y4= .func (.yield l) #[] #[]:=e4;subst e4;have e5:y5= .slice (some ⟨g,o,none⟩) n c:=e5;subst e5;have e6:y6= .int .i64 (i:Int):=e6;subst e6;have e7:y7= .pointer (some ⟨g,o+i,none⟩):=e7;subst e7;have e8:y8= .int .u64 xi:=e8;subst e8;have e9:y9= .int .u64 xk:=e9;subst e9;have e10:y10= .int .u64 q:=e10;subst e10;have e11:y11= .int .u64 (Ys xi xk q):=e11;subst e11;have e12:y12= .int .u64 at_:=e12;subst e12;have e13:y13= .int .u64 xk:=e13;subst e13;have e14:y14= .int .u64 q:=e14;subst e14;have e15:y15= .int .u64 (Ys at_ xk q):=e15;subst e15;simp only [Act.put,sAa,sAb,sAc];have hyy:=HRY.out w3 hw3;clear HRY;unfold YieldAt at hyy
    try dsimp only at hyy
    refine Exists.elim hyy fun fn hyy1=>Exists.elim hyy1 fun tmps hyy2=>Exists.elim hyy2 fun assign hyy3=>Exists.elim hyy3 fun body hyy4=> ?_
    clear hyy hyy1 hyy2 hyy3;have hy:=hyy4.1;have hR:=hyy4.2;clear hyy4;have HR:=za hR;have HK3:=za (HKE.out w3 hw3);clear hw3 hR
    gi_wp2_with ((with_reducible refine HR.out.mono ?_);rintro e W' ⟨rfl,hJ2,hK2⟩)
    exact ⟨⟨k+1,_,by omega,by go_num,za ⟨HPN.out,hJ2,HK3.out.trans hK2⟩⟩,by simp [intOf];omega⟩
  ·obtain rfl:k=n:=by omega
   gi_wp2
   go_end0;exact ⟨⟨_,rfl⟩,pre,by rw [HX.out.1,HN.out];rfl,HX.out.2.1⟩
end
section
open Go Go.RowKit Go.Shelf
attribute [local go_sem] Oper.semAt_some
def xD(q:Int)(l:List Int):Int:=l.foldl (fun s y=>yg s y q) (1%q)
theorem UG(q:Int)(l:List Int)(y:Int):xD q (l++ [y])=yg (xD q l) y q:=by simp [xD]
open Classical in
noncomputable def Vx(q:Int)(xs:List Int)(i:Nat)(at_:Int):Value:=
 if yd (xD q ((xY q xs i at_).map (·.1))) q then .tuple #[.int .u64 (TW (xD q ((xY q xs i at_).map (·.1))) q), .int .u64 (xD q ((xY q xs i at_).map (·.2))), .int .i64 0]
 else .tuple #[.int .u64 0, .int .u64 (xD q ((xY q xs i at_).map (·.2))), .int .i64 5]
def FD(w wx:World)(q:Int)(B1 B2:Nat):Prop:=w.heap.size< B1∧w.heap.size< B2∧B1≠B2∧Boxed wx w.heap.size 22 (.int .u64 q)∧Boxed wx B1 22 (.int .u64 (1%q))∧Boxed wx B2 22 (.int .u64 (1%q))∧w.grownBy wx none
theorem UH(q:Int)(hq:zY q=true): ∀(l:List Int) (s:Int),0≤s∧s< q→0≤l.foldl (fun s y=>yg s y q) s∧l.foldl (fun s y=>yg s y q) s< q
 | [],_,h=>h
 |y::l,s,_=>UH q hq l _ (Pg s y q hq)
theorem Jr(q:Int)(hq:zY q=true)(l:List Int):0≤xD q l∧xD q l< q:=by
 refine UH q hq l _ ?_;simp [zY] at hq;exact zW 1 q hq.1
theorem VB(q:Int)(hq:zY q=true)(l:List Int):U64 (xD q l):=by
 have h:=Jr q hq l;simp [zY] at hq;exact ⟨h.1,by omega⟩
theorem UM(w:World)(t1 t2 t3 t4:TypeId)(v1 v2 v3 v4:Value)(W0:World)(h:W0=(((w.alloc (.cells #[v1] t1)).alloc (.cells #[v2] t2)).alloc (.cells #[v3] t3)).alloc (.cells #[v4] t4)):
  Boxed W0 w.heap.size t1 v1∧Boxed W0 (w.heap.size+1) t2 v2∧Boxed W0 (w.heap.size+1+1) t3 v3∧Boxed W0 (w.heap.size+1+1+1) t4 v4∧w.grownBy W0 none∧W0.heap.size=w.heap.size+1+1+1+1:=by
 subst h;have b2:=((Boxed.new (w.alloc (.cells #[v1] t1)) t2 v2).alloc (.cells #[v3] t3)).alloc (.cells #[v4] t4);have b3:=(Boxed.new ((w.alloc (.cells #[v1] t1)).alloc (.cells #[v2] t2)) t3 v3).alloc (.cells #[v4] t4);have b4:=Boxed.new (((w.alloc (.cells #[v1] t1)).alloc (.cells #[v2] t2)).alloc (.cells #[v3] t3)) t4 v4;simp only [World.size_alloc] at b2 b3 b4;exact ⟨(((Boxed.new w t1 v1).alloc _).alloc _).alloc _,b2,b3,b4,(((gAl w _ none).trans (gAl _ _ none)).trans (gAl _ _ none)).trans (gAl _ _ none),by simp⟩
structure ShE where
 w:World
 W0:World
 W:World
 q:Int
 p1:Int
 p2:Int
 p1':Int
 p2':Int
 B1:Nat
 B2:Nat
 C1:Nat
 C2:Nat
 C3:Nat
 C4:Nat
structure ShE.Ok (e:ShE):Prop where
 b1:e.w.heap.size< e.B1
 b2:e.w.heap.size< e.B2
 b12:e.B1≠e.B2
 c1:e.B1< e.C1∧e.B2< e.C1∧e.C1< e.W0.heap.size
 c2:e.B1< e.C2∧e.B2< e.C2∧e.C2< e.W0.heap.size
 c3:e.B1< e.C3∧e.B2< e.C3∧e.C3< e.W0.heap.size
 c4:e.B1< e.C4∧e.B2< e.C4∧e.C4< e.W0.heap.size
structure ShE.At (e:ShE) (x y:Bool) (V:World):Prop where
 q:Boxed V e.w.heap.size 22 (.int .u64 e.q)
 one:Boxed V e.B1 22 (.int .u64 (if x then e.p1' else e.p1))
 two:Boxed V e.B2 22 (.int .u64 (if y then e.p2' else e.p2))
 from':KeepsFrom e.W0.heap.size e.W V
 kp:Kp4 e.w.heap.size e.C1 e.C2 e.C3 e.C4 e.W V
 bl:Below e.w.heap.size e.w V
 sz:e.W0.heap.size≤V.heap.size
theorem ShE.At.grown{e:ShE}(k:e.Ok){x y:Bool}{V V':World}(h:e.At x y V)(hg:V.grownBy V' none):e.At x y V':=by
 have h1:=k.c1;have h2:=k.c2;have h3:=k.c3;have h4:=k.c4;have h5:=h.sz;have h6:=k.b1;exact ⟨h.q.kept hg (by simp),h.one.kept hg (by simp),h.two.kept hg (by simp),h.from'.trans ((xQ hg).from _),h.kp.trans (Kp4.grown hg (by omega) (by omega) (by omega) (by omega) (by omega)),h.bl.trans ((zy hg).mono (by omega)),Nat.le_trans h.sz hg.size⟩
theorem ShE.At.set1{e:ShE}(k:e.Ok){x y:Bool}{V:World}(h:e.At x y V):e.At true y (V.setCell ⟨e.B1,0,none⟩ (.int .u64 e.p1')):=by
 have h1:=k.c1;have h2:=k.c2;have h3:=k.c3;have h4:=k.c4;have h6:=k.b1;have h7:=k.b12;exact ⟨h.q.other (by omega) _,h.one.set _,h.two.other (by omega) _,h.from'.trans ((KeepsOthers.setCell _ _ _).from _),h.kp.trans ⟨(Below.refl _ V).setCell (p:=⟨e.B1,0,none⟩) (by simp;omega) _,Below.heap_setCell V _ _ _ (by simp;omega),Below.heap_setCell V _ _ _ (by simp;omega),Below.heap_setCell V _ _ _ (by simp;omega),Below.heap_setCell V _ _ _ (by simp;omega)⟩,h.bl.setCell (p:=⟨e.B1,0,none⟩) (by simp;omega) _,by have:=h.sz;simp;omega⟩
theorem ShE.At.set2{e:ShE}(k:e.Ok){x y:Bool}{V:World}(h:e.At x y V):e.At x true (V.setCell ⟨e.B2,0,none⟩ (.int .u64 e.p2')):=by
 have h1:=k.c1;have h2:=k.c2;have h3:=k.c3;have h4:=k.c4;have h6:=k.b2;have h7:=k.b12;exact ⟨h.q.other (by omega) _,h.one.other (by omega) _,h.two.set _,h.from'.trans ((KeepsOthers.setCell _ _ _).from _),h.kp.trans ⟨(Below.refl _ V).setCell (p:=⟨e.B2,0,none⟩) (by simp;omega) _,Below.heap_setCell V _ _ _ (by simp;omega),Below.heap_setCell V _ _ _ (by simp;omega),Below.heap_setCell V _ _ _ (by simp;omega),Below.heap_setCell V _ _ _ (by simp;omega)⟩,h.bl.setCell (p:=⟨e.B2,0,none⟩) (by simp;omega) _,by have:=h.sz;simp;omega⟩
def ShE.C(e:ShE)(D:Array Bool)(V:World):Prop:=e.At (D.getD 8 false) (D.getD 9 false) V
theorem ShE.C.grown{e:ShE}(k:e.Ok){D:Array Bool}{V V':World}(h:e.C D V)(hg:V.grownBy V' none)(i:Nat)(h8:i≠8)(h9:i≠9):e.C (D.setIfInBounds i true) V':=by
 unfold ShE.C;rw [getD_set_ne false h8,getD_set_ne false h9];exact ShE.At.grown k h hg
theorem ShE.C.set1{e:ShE}(k:e.Ok){D:Array Bool}{V:World}(h:e.C D V)(hs:D.size=10):e.C (D.setIfInBounds 8 true) (V.setCell ⟨e.B1,0,none⟩ (.int .u64 e.p1')):=by
 unfold ShE.C;rw [getD_set_ne false (show 8≠9 by omega),show (D.setIfInBounds 8 true).getD 8 false=true by simp [hs]];exact ShE.At.set1 k h
theorem ShE.C.set2{e:ShE}(k:e.Ok){D:Array Bool}{V:World}(h:e.C D V)(hs:D.size=10):e.C (D.setIfInBounds 9 true) (V.setCell ⟨e.B2,0,none⟩ (.int .u64 e.p2')):=by
 unfold ShE.C;rw [getD_set_ne false (show 9≠8 by omega),show (D.setIfInBounds 9 true).getD 9 false=true by simp [hs]];exact ShE.At.set2 k h
theorem ShE.C.one{e:ShE}{D:Array Bool}{V:World}(h:e.C D V)(h8:D.getD 8 false=false):Boxed V e.B1 22 (.int .u64 e.p1):=by
 have:=ShE.At.one h
 rw [h8] at this;exact this
theorem ShE.C.two{e:ShE}{D:Array Bool}{V:World}(h:e.C D V)(h9:D.getD 9 false=false):Boxed V e.B2 22 (.int .u64 e.p2):=by
 have:=ShE.At.two h
 rw [h9] at this;exact this
theorem Mx(q:Int)(xs:List Int)(i:Nat)(at_:Int): ∃x e:Int,VO (xD q ((xY q xs i at_).map (·.1))) q= .tuple #[.int .u64 x, .int .i64 e]∧Vx q xs i at_= .tuple #[.int .u64 x, .int .u64 (xD q ((xY q xs i at_).map (·.2))), .int .i64 e]:=by
 unfold Vx VO;split
 ·exact ⟨_,_,rfl,rfl⟩
 ·exact ⟨_,_,rfl,rfl⟩
theorem MQ(A:Option Addr)(n c:Nat)(i at_ q:Int)(w:World):
  Calls Tryz.prog 241 #[.slice A n c, .int .i64 i, .int .u64 at_, .int .u64 q] w fun e w'=>e= .returned (.func (.func 244) #[] #[.pointer (some ⟨w.heap.size,0,none⟩), .pointer (some ⟨w.heap.size+1,0,none⟩), .pointer (some ⟨w.heap.size+1+1+1,0,none⟩), .pointer (some ⟨w.heap.size+1+1,0,none⟩)])∧(Boxed w' w.heap.size 31 (.slice A n c)∧Boxed w' (w.heap.size+1) 3 (.int .i64 i)∧Boxed w' (w.heap.size+1+1) 22 (.int .u64 at_)∧Boxed w' (w.heap.size+1+1+1) 22 (.int .u64 q)∧w.grownBy w' none∧w'.heap.size=w.heap.size+1+1+1+1):=
 (OW A n c i at_ q w).mono fun _ _ h=>⟨h.1,UM _ _ _ _ _ _ _ _ _ _ h.2⟩
theorem PH(w:World)(q:Int):FD w (((w.alloc (.cells #[.int .u64 q] 22)).alloc (.cells #[.int .u64 (1%q)] 22)).alloc (.cells #[.int .u64 (1%q)] 22)).drew q (w.heap.size+1) (w.heap.size+1+1):=by
 have b1:=(Boxed.new (w.alloc (.cells #[.int .u64 q] 22)) 22 (.int .u64 (1%q))).alloc (.cells #[.int .u64 (1%q)] 22);have b2:=Boxed.new ((w.alloc (.cells #[.int .u64 q] 22)).alloc (.cells #[.int .u64 (1%q)] 22)) 22 (.int .u64 (1%q));simp only [World.size_alloc] at b1 b2;exact ⟨by omega,by omega,by omega,(((Boxed.new w 22 (.int .u64 q)).alloc _).alloc _),b1,b2,zf (((gAl w _ none).trans (gAl _ _ none)).trans (gAl _ _ none)) 1⟩
theorem KK(w:World)(q:Int):FD w (((w.alloc (.cells #[.int .u64 q] 22)).alloc (.cells #[.int .u64 (1%q)] 22)).alloc (.cells #[.int .u64 (1%q)] 22)).drew q (w.heap.size+1+1) (w.heap.size+1):=by
 obtain ⟨h1,h2,h3,h4,h5,h6,h7⟩:=PH w q;exact ⟨h2,h1,h3.symm,h4,h6,h5,h7⟩
theorem Tk(v:Value)(xs:List Int)(i:Nat)(at_ q:Int)(X:Nat→Prop)(w:World)(hxs:Sl ze X w v xs)(hi:i< xs.length)(hu:U64 at_)(hq:zY q=true):
  Calls Tryz.prog 233 #[v, .int .i64 i, .int .u64 at_, .int .u64 q] w fun e w'=>e= .returned (Vx q xs i at_)∧w.grownBy w' none:=by
 have HQ:=za hq;simp [zY] at hq;obtain ⟨hq0,hq1⟩:=hq;have hqn: ¬q=0:=by omega
 have HX:=za hxs;have HI:=za hi;have HU:=za hu;have HR:=za (zW 1 q hq0);have HT:Hid (Int.tmod 1 q=1%q):=za (Int.tmod_eq_emod_of_nonneg (by decide));obtain ⟨A1,c1,rfl,_,_⟩:=hxs.form;obtain ⟨rx,re,hre,hrs⟩:=Mx q xs i at_;rw [hrs];have HRE:=za hre;clear hxs hi hu hre hrs;refine (callsIn_wide (n:=4)).1 ?_;refine callsIn_of_wp_marks Tryz.func233 rfl trivial ?_ rfl;refine wpIn_wide.2 ?_;simp only [Tryz.ntmps233,List.size_toArray,List.length_cons,List.length_nil,Nat.reduceAdd,Nat.reduceSub,Array.replicate_succ,Array.replicate_zero,List.push_toArray,List.append_toArray,List.nil_append,List.cons_append];go_upto_region 1 with fail
 go_cut [11,12] from 17 to 20 (fun s11 s12 wx=> ∃B1 B2:Nat,s11= .pointer (some ⟨B1,0,none⟩)∧s12= .pointer (some ⟨B2,0,none⟩)∧Hid (FD w wx q B1 B2))
 case first=>
  go_region_held3 (fun w'=>w'.cell? ⟨w.heap.size,0,none⟩=some (.int .u64 q)) (go_keep) (fail)
  all_goals (go_wp2_with fail)
  all_goals (rw [HT.out];go_meet)
  ·exact ⟨_,_,rfl,rfl,za (PH w q)⟩
  ·exact ⟨_,_,rfl,rfl,za (KK w q)⟩
 case rest=>
  obtain ⟨B1,B2,rfl,rfl,HB⟩:=hcut
  rename World=>wc
  obtain ⟨kb1,kb2,kb12,kq,kp1,kp2,kg⟩:=HB.out;have kqc:=kq.cell;have HC:Hid (FD w wc q B1 B2):=HB;have HW:Hid (w.grownBy wc none):=za kg;clear HB kq kp1 kp2 kg;have hlen:xs.length≤c1:=by assumption
  go_wp2_with ((with_reducible refine (MQ A1 xs.length c1 i at_ q wc).mono ?_);rintro e W0 ⟨rfl,hW0⟩);have HD:=za hW0;clear hW0;have HB1:Hid (Boxed W0 B1 22 (.int .u64 (1%q))∧Boxed W0 B2 22 (.int .u64 (1%q))∧Boxed W0 w.heap.size 22 (.int .u64 q)∧Below w.heap.size w W0∧B1< wc.heap.size∧B2< wc.heap.size∧w.heap.size≤wc.heap.size):=by
   obtain ⟨_,_,_,z4,z1,z2,z3⟩:=HC.out;have hg:=HD.out.2.2.2.2.1;exact za ⟨z1.kept hg (by simp),z2.kept hg (by simp),z4.kept hg (by simp),zy (HW.out.trans hg),z1.lt,z2.lt,HW.out.size⟩
  have hs0:W0.heap.size=wc.heap.size+1+1+1+1:=HD.out.2.2.2.2.2;have hs1:=HB1.out.2.2.2.2.1;have hs2:=HB1.out.2.2.2.2.2.1;have hs3:=HB1.out.2.2.2.2.2.2;refine (wpIn_wide (n:=3)).1 ?_;refine xV rfl (by omega) (gf:=244) (lb:= #[.pointer (some ⟨wc.heap.size,0,none⟩), .pointer (some ⟨wc.heap.size+1,0,none⟩), .pointer (some ⟨wc.heap.size+1+1+1,0,none⟩), .pointer (some ⟨wc.heap.size+1+1,0,none⟩)]) rfl trivial (enters_of Tryz.func244 (by kernel_rfl) rfl)
   (Pb (3 - 1) (by omega) _ _ _ _ _ xs i at_ q X w W0 HB1.out.2.2.2.1 HD.out.1 HD.out.2.1 HD.out.2.2.2.1 HD.out.2.2.1 HX.out HI.out HU.out) Kp4.trans (Kp4.b (by omega) (by omega) (by omega) (by omega) (by omega)) (Below.refl _ _) (fun _=>rfl)
   (fun pre W=>Boxed W w.heap.size 22 (.int .u64 q)∧Boxed W B1 22 (.int .u64 (xD q (pre.map (·.1))))∧Boxed W B2 22 (.int .u64 (xD q (pre.map (·.2))))∧Below w.heap.size w W∧W0.heap.size≤W.heap.size)
   (fun pre X' Y row hs hg hrow=>by
    obtain ⟨s1,s2,s3,s4,s5⟩:=hs;have hr':=fun r e=>(hrow r e).2
    exact ⟨s1.kept hg (ZV s1 hr'),s2.kept hg (ZV s2 hr'),s3.kept hg (ZV s3 hr'),s4.grown hg s4.size (fun k e=>by have:=(hrow k e).1;omega),Nat.le_trans s5 hg.size⟩)
   ⟨HB1.out.2.2.1,HB1.out.1,HB1.out.2.1,HB1.out.2.2.2.1,Nat.le_refl _⟩
   (fun e a' W=>(U64 e.1∧U64 e.2)∧a'={tmps:= #[.slice A1 xs.length c1, .int .i64 i, .int .u64 at_, .int .u64 q,undef,undef,undef, .pointer (some ⟨w.heap.size,0,none⟩), .int .u64 0, .int .u64 0, .int .i64 0, .pointer (some ⟨B1,0,none⟩), .pointer (some ⟨B2,0,none⟩), .int .u64 e.1, .int .u64 e.2,undef,undef,u17,u18,u19,u20, .slice A1 xs.length c1, .int .i64 i, .int .u64 at_, .int .u64 q, .func (.func 244) #[] #[.pointer (some ⟨wc.heap.size,0,none⟩), .pointer (some ⟨wc.heap.size+1,0,none⟩), .pointer (some ⟨wc.heap.size+1+1+1,0,none⟩), .pointer (some ⟨wc.heap.size+1+1,0,none⟩)], .int .u64 e.1, .int .u64 e.2,undef,undef,undef,undef,undef,undef,undef,undef,undef,undef,undef,undef,undef,undef,undef,undef,undef],defers:= []})
   (fun e a' _ X' Y row hs hg hrow=>hs)
   ?assign ?body ?done
  case assign=>
   rintro l pre ⟨own,far⟩ W K hi hfx hK;have hk2:=hK _ W (KeepsFrom.refl _ _) (Kp4.refl _ _ _ _ _ _) hi ⟨hfx,rfl⟩;clear hK hi hfx
   gi_wp2
   exact hk2
  case body=>
   rintro l pre ⟨own,far⟩ a' W hl ⟨hbq,hb1,hb2,hbl,hws⟩ ⟨⟨hu1,hu2⟩,rfl⟩ hlt;obtain ⟨p1,hp1⟩: ∃p1,p1=xD q (pre.map (·.1)):=⟨_,rfl⟩;obtain ⟨p2,hp2⟩: ∃p2,p2=xD q (pre.map (·.2)):=⟨_,rfl⟩;rw [←hp1] at hb1;rw [←hp2] at hb2;have HSN:Hid (xD q ((pre++ [(own,far)]).map (·.1))=yg p1 own q∧xD q ((pre++ [(own,far)]).map (·.2))=yg p2 far q):=za ⟨by rw [List.map_append,hp1];exact UG _ _ _,by rw [List.map_append,hp2];exact UG _ _ _⟩;have HP:Hid (U64 p1∧U64 p2∧U64 own∧U64 far):=za ⟨by rw [hp1];exact VB _ HQ.out _,by rw [hp2];exact VB _ HQ.out _,hu1,hu2⟩;clear hp1 hp2 hu1 hu2 hlt;obtain ⟨E,hE⟩: ∃E:ShE,E={w:=w,W0:=W0,W:=W,q:=q,p1:=p1,p2:=p2,p1':=yg p1 own q,p2':=yg p2 far q,B1:=B1,B2:=B2,C1:=wc.heap.size,C2:=wc.heap.size+1,C3:=wc.heap.size+1+1+1,C4:=wc.heap.size+1+1}:=⟨_,rfl⟩;have HE:Hid (E.Ok∧E.p1=p1∧E.p2=p2∧E.w=w∧E.q=q∧E.w.heap.size=w.heap.size∧E.B1=B1∧E.B2=B2∧E.p1'=yg p1 own q∧E.p2'=yg p2 far q):=za (by subst hE;exact ⟨⟨kb1,kb2,kb12,⟨hs1,hs2,by show wc.heap.size< W0.heap.size;omega⟩,⟨by show B1< wc.heap.size+1;omega,by show B2< wc.heap.size+1;omega,by show wc.heap.size+1< W0.heap.size;omega⟩,⟨by show B1< wc.heap.size+1+1+1;omega,by show B2< wc.heap.size+1+1+1;omega,by show wc.heap.size+1+1+1< W0.heap.size;omega⟩,⟨by show B1< wc.heap.size+1+1;omega,by show B2< wc.heap.size+1+1;omega,by show wc.heap.size+1+1< W0.heap.size;omega⟩⟩,rfl,rfl,rfl,rfl,rfl,rfl,rfl,rfl,rfl⟩);have HC0:Hid (∀D:Array Bool,D.getD 8 false=false→D.getD 9 false=false→E.C D W.drew):=za (fun D h8 h9=>by
    subst hE;unfold ShE.C;rw [h8,h9];exact ⟨hbq,hb1,hb2,(xQ (zb W 1)).from _,Kp4.grown (zb W 1) (by show w.heap.size≤W.heap.size;omega) (by show wc.heap.size< W.heap.size;omega) (by show wc.heap.size+1< W.heap.size;omega) (by show wc.heap.size+1+1+1< W.heap.size;omega) (by show wc.heap.size+1+1< W.heap.size;omega),hbl.trans ((zy (zb W 1)).mono (by show w.heap.size≤W.heap.size;omega)),hws⟩)
   have HF:Hid (∀D V,D.getD 8 false=true→D.getD 9 false=true→E.C D V→KeepsFrom W0.heap.size W V∧Kp4 w.heap.size wc.heap.size (wc.heap.size+1) (wc.heap.size+1+1+1) (wc.heap.size+1+1) W V∧Boxed V w.heap.size 22 (.int .u64 q)∧Boxed V B1 22 (.int .u64 (xD q ((pre++ [(own,far)]).map (·.1))))∧Boxed V B2 22 (.int .u64 (xD q ((pre++ [(own,far)]).map (·.2))))∧Below w.heap.size w V∧W0.heap.size≤V.heap.size):=za (fun D V h8 h9 h=>by
    rw [HSN.out.1,HSN.out.2];subst hE;unfold ShE.C at h;rw [h8,h9] at h;exact ⟨h.from',h.kp,h.q,ShE.At.one h,ShE.At.two h,h.bl,h.sz⟩)
   clear hE hbq hb1 hb2 hbl hws;dsimp only
   gi_wp2
   refine xx (l0:=l) (R:=fun _ V=>KeepsFrom W0.heap.size W V∧Kp4 w.heap.size wc.heap.size (wc.heap.size+1) (wc.heap.size+1+1+1) (wc.heap.size+1+1) W V∧Boxed V w.heap.size 22 (.int .u64 q)∧Boxed V B1 22 (.int .u64 (xD q ((pre++ [(own,far)]).map (·.1))))∧Boxed V B2 22 (.int .u64 (xD q ((pre++ [(own,far)]).map (·.2))))∧Below w.heap.size w V∧W0.heap.size≤V.heap.size) (by kernel_rfl) (by kernel_rfl) (fun a w h=>⟨rfl,h⟩) ?_;refine OB 10 E.C [.int .u64 p1, .int .u64 own, .int .u64 q, .int .u64 (yg p1 own q), .int .u64 p2, .int .u64 far, .int .u64 q, .int .u64 (yg p2 far q),undef,undef] (by kernel_rfl) rfl (HC0.out _ (by kernel_rfl) (by kernel_rfl)) ?_ ?_;refine ZP.step [] (by kernel_rfl) (fun D V hsz hD hav hC=> ?_) ?_
   ·refine Zp rfl fun K hK=> ?_
    have hb:=(ShE.C.one hC (hav 8 (by kernel_rfl))).cell;rw [HE.out.2.1,HE.out.2.2.2.2.2.2.1] at hb;go_simp;exact hK _ _ rfl rfl (ShE.C.grown HE.out.1 hC gRf 0 (by decide) (by decide))
   refine ZP.step [] (by kernel_rfl) (fun D V hsz hD hav hC=> ?_) ?_
   ·refine Zp rfl fun K hK=> ?_
    go_simp;exact hK _ _ rfl rfl (ShE.C.grown HE.out.1 hC gRf 1 (by decide) (by decide))
   refine ZP.step [] (by kernel_rfl) (fun D V hsz hD hav hC=> ?_) ?_
   ·refine Zp rfl fun K hK=> ?_
    have hb:=hC.q.cell;rw [HE.out.2.2.2.2.1,HE.out.2.2.2.2.2.1] at hb;go_simp;exact hK _ _ rfl rfl (ShE.C.grown HE.out.1 hC gRf 2 (by decide) (by decide))
   refine ZP.step [(0,28),(1,29),(2,30)] (by kernel_rfl) (fun D V hsz hD hav hC=> ?_) ?_
   ·rintro _ rfl;rintro _ rfl;rintro _ rfl;refine Zp rfl fun K hK=> ?_
    go_simp;refine (VJ p1 own q V HP.out.1 HP.out.2.2.1).mono ?_;rintro e V2 ⟨rfl,hg⟩;exact hK _ _ rfl rfl (ShE.C.grown HE.out.1 hC hg 3 (by decide) (by decide))
   refine ZP.step [] (by kernel_rfl) (fun D V hsz hD hav hC=> ?_) ?_
   ·refine Zp rfl fun K hK=> ?_
    have hb:=(ShE.C.two hC (hav 9 (by kernel_rfl))).cell;rw [HE.out.2.2.1,HE.out.2.2.2.2.2.2.2.1] at hb;go_simp;exact hK _ _ rfl rfl (ShE.C.grown HE.out.1 hC gRf 4 (by decide) (by decide))
   refine ZP.step [] (by kernel_rfl) (fun D V hsz hD hav hC=> ?_) ?_
   ·refine Zp rfl fun K hK=> ?_
    go_simp;exact hK _ _ rfl rfl (ShE.C.grown HE.out.1 hC gRf 5 (by decide) (by decide))
   refine ZP.step [] (by kernel_rfl) (fun D V hsz hD hav hC=> ?_) ?_
   ·refine Zp rfl fun K hK=> ?_
    have hb:=hC.q.cell;rw [HE.out.2.2.2.2.1,HE.out.2.2.2.2.2.1] at hb;go_simp;exact hK _ _ rfl rfl (ShE.C.grown HE.out.1 hC gRf 6 (by decide) (by decide))
   refine ZP.step [(4,32),(5,33),(6,34)] (by kernel_rfl) (fun D V hsz hD hav hC=> ?_) ?_
   ·rintro _ rfl;rintro _ rfl;rintro _ rfl;refine Zp rfl fun K hK=> ?_
    go_simp;refine (VJ p2 far q V HP.out.2.1 HP.out.2.2.2).mono ?_;rintro e V2 ⟨rfl,hg⟩;exact hK _ _ rfl rfl (ShE.C.grown HE.out.1 hC hg 7 (by decide) (by decide))
   refine ZP.step [(3,31)] (by kernel_rfl) (fun D V hsz hD hav hC=> ?_) ?_
   ·rintro _ rfl;refine Zp rfl fun K hK=> ?_
    have hc0:=ShE.C.one hC (hav 8 (by kernel_rfl));have hcc:=hc0.cell;have hcf:=hc0.frozen;rw [HE.out.2.1] at hcc;rw [HE.out.2.2.2.2.2.2.1] at hcc hcf;have hfin:=ShE.C.set1 HE.out.1 hC hsz;rw [HE.out.2.2.2.2.2.2.1,HE.out.2.2.2.2.2.2.2.2.1] at hfin;go_simp;exact hK _ _ rfl rfl hfin
   refine ZP.step [(7,35)] (by kernel_rfl) (fun D V hsz hD hav hC=> ?_) ?_
   ·rintro _ rfl;refine Zp rfl fun K hK=> ?_
    have hc0:=ShE.C.two hC (hav 9 (by kernel_rfl));have hcc:=hc0.cell;have hcf:=hc0.frozen;rw [HE.out.2.2.1] at hcc;rw [HE.out.2.2.2.2.2.2.2.1] at hcc hcf;have hfin:=ShE.C.set2 HE.out.1 hC hsz;rw [HE.out.2.2.2.2.2.2.2.1,HE.out.2.2.2.2.2.2.2.2.2] at hfin;go_simp;exact hK _ _ rfl rfl hfin
   ·trivial
   ·intro D V hall hC;have hfin:=HF.out D V (hall 8 (by omega)) (hall 9 (by omega)) hC;clear hC hall;intro x0 _ x1 _ x2 _ x3 _ x4 _ x5 _ x6 _ x7 _ x8 _ x9 _;refine wpList_nil ?_;exact ⟨rfl,hfin⟩
  case done=>
   rintro D zs W hD rfl ⟨hbq,hb1,hb2,hbl,hws⟩ hK;have hre:=HRE.out;have HIN:=za (fun w'=>Hx (xD q ((xY q xs i at_).map (·.1))) q w' (VB q HQ.out _) HQ.out);rw [hre] at HIN;have c1':=hb1.cell;have c2':=hb2.cell;have cq':=hbq.cell;have HK:=za (And.intro hbl (And.intro hK hD));clear hbq hb1 hb2 hbl hK hre;go_wp2_with ((with_reducible refine (HIN.out _).mono ?_);rintro e W5 ⟨rfl,n5,rfl⟩);go_region_held3 (fun w'=>w'.cell? ⟨B2,0,none⟩=some (.int .u64 (xD q ((xY q xs i at_).map (·.2))))) (go_keep) (fail)
   all_goals (go_wp2_with fail)
   obtain ⟨hbl,hK,hD⟩:=HK.out;refine ⟨by simp, .inl ⟨_,_,rfl,run_takeDeferred (w:=(W.drewN n5).drew) hK, ?_⟩⟩;have hle:w.heap.size≤W0.heap.size:=by omega
   have hfin:w.grownBy (((W.drewN n5).drew).putObj D (.deferred none)) none:=zf (zl (hbl.trans (belowK_b (w:=W0) hle W D _ (.deferred none) hD hK rfl rfl))) (n5+1);exact ⟨_,results_tmp3 rfl _ _ _,rfl,hfin⟩
end
section
open Go Go.RowKit Go.Shelf Go.Maps
theorem ZJ(m:Int)(w:World)(hm:U64 m):
  Calls Tryz.prog 229 #[.int .u64 m] w fun e w'=>e= .returned (.bool (zY m))∧w=w':=by
 have hm0:=hm.1;have hm1:=hm.2;clear hm;by_cases h0:0< m
 ·by_cases h1:m≤2305843009213693952
  ·have hr:zY m=true:=by simp [zY,h0,h1]
   rw [hr];clear hr;have h2:decide (m≤2305843009213693952)=true:=by simpa using h1
   go_enter Tryz.func229,Tryz.ntmps229;go_wp2;go_ret;exact ⟨rfl,rfl⟩
  ·have hr:zY m=false:=by simp [zY,h1]
   rw [hr];clear hr;have h2:decide (m≤2305843009213693952)=false:=by simpa using h1
   go_enter Tryz.func229,Tryz.ntmps229;go_wp2;go_ret;exact ⟨by simp,rfl⟩
 ·have hr:zY m=false:=by simp [zY,h0]
  rw [hr];clear hr;go_enter Tryz.func229,Tryz.ntmps229;go_wp2;go_ret;exact ⟨rfl,rfl⟩
def YS(l:List Int):List Int:=l.foldl (fun s x=>bif s.contains x then s else s++ [x]) []
theorem UC(l:List Int)(x:Int):YS (l++ [x])=bif (YS l).contains x then YS l else YS l++ [x]:=by simp only [YS,List.foldl_append,List.foldl_cons,List.foldl_nil]
def yX(xs:List Int)(q:Int):Int:=if zY q=false then 1 else if 1024< xs.length then 40 else if (YS (xs.map (· %q))).length< xs.length then 6 else 0
theorem Dr:Keyed Tryz.prog 22:=int_keyed Tryz.underlying22
theorem FG(w:World):(zeroValue 3).run Tryz.prog w= .ok (.int .i64 0) w:=by kernel_rfl
def KB(D:DataW Unit)(pre:List Int):Prop:=Maps.Tidy D∧Maps.size D=(YS pre).length∧ ∀x,Maps.has D (.int .u64 x)=(YS pre).contains x
theorem KB.nil:KB (.map []) []:=⟨tidy_empty,rfl,fun _=>rfl⟩
theorem KB.put{D:DataW Unit}{pre:List Int}(h:KB D pre)(x:Int)(d:DataW Unit):KB (D.put (.int .u64 x) d) (pre++ [x]):=by
 obtain ⟨h1,h2,h3⟩:=h;have hk:WideAt.IsKeyLit (.int .u64 x):=trivial;refine ⟨h1.put hk d, ?_,fun y=> ?_⟩
 ·rw [size_put h1,h3 x,UC];cases (YS pre).contains x
  ·simp [h2]
  ·simp [h2]
 ·rw [UC];by_cases e:y=x
  ·subst e;rw [has_put_same h1.isMap hk];cases hc:(YS pre).contains y
   ·simp
   ·simp only [cond_true,hc]
  ·rw [has_put_other (by intro e';injection e' with _ e';exact e e'),h3 y];cases (YS pre).contains x
   ·have e':(y==x)=false:=by simpa using e
    simp [e]
   ·rfl
theorem XZ(n:Int)(w:World):(Instr.makeMap 275 (some (.int .i64 n))).run Tryz.prog w= .ok (.map (some w.heap.size)) (w.alloc (.map #[] 0)):=by
 simp [Instr.makeMap,run_underlying Tryz.underlying275,asInt,asIntOf,Result.andThen]
theorem OC(v:Value)(xs:List Int)(q:Int)(X:Nat→Prop)(w:World)(h:Sl ze X w v xs)(hq:U64 q):
  Calls Tryz.prog 230 #[v, .int .u64 q] w fun e w'=>e= .returned (.int .i64 (yX xs q))∧w.grownBy w' none:=by
 have H:=za h;have HQ:=za hq;obtain ⟨A,c,rfl,hc1,hc2⟩:=h.form;clear h hq;cases hm:zY q with
 |false=>
  have hr:yX xs q=1:=by simp [yX,hm]
  rw [hr];have HM:=za hm;clear hr hm;go_enter Tryz.func230,Tryz.ntmps230;go_wp2_with ((with_reducible refine (ZJ q _ HQ.out).mono ?_);rw [HM.out];rintro e w' ⟨rfl,rfl⟩);go_ret;exact ⟨rfl,gRf⟩
 |true=>
  have HM:=za hm;have hq0:0< q:=by simp [zY] at hm;exact hm.1
  have hqn: ¬q=0:=by omega
  by_cases hl:1024< xs.length
  ·have hr:yX xs q=40:=by simp [yX,hm,hl]
   rw [hr];clear hr hm;generalize xs.length=n at *;go_enter Tryz.func230,Tryz.ntmps230;go_wp2_with ((with_reducible refine (ZJ q _ HQ.out).mono ?_);rw [HM.out];rintro e w' ⟨rfl,rfl⟩);go_ret;exact ⟨rfl,gRf⟩
  ·obtain ⟨res,hr⟩: ∃res,res=yX xs q:=⟨_,rfl⟩;have HRES:Hid (res=if (YS (xs.map (· %q))).length< xs.length then 6 else 0):=za (by rw [hr];simp [yX,hm,hl]);rw [←hr];clear hr hm;have HR0:Hid (KB (.map []) ((xs.take 0).map (· %q))):=za KB.nil;have HT:Hid (∀k (hk:k< xs.length),(xs.take (k+1)).map (· %q)=(xs.take k).map (· %q)++ [xs[k]%q]):=za (fun k hk=>by rw [List.take_succ_eq_append_getElem hk,List.map_append];rfl);obtain ⟨n,hn⟩: ∃n,n=xs.length:=⟨_,rfl⟩;have HN:=za hn;rw [←hn] at hc1 hl ⊢;clear hn;have hmm:= @XZ;go_enter Tryz.func230,Tryz.ntmps230;go_wp2_with ((with_reducible refine (ZJ q _ HQ.out).mono ?_);rw [HM.out];rintro e w' ⟨rfl,rfl⟩);go_loopg [21] n (fun g s21 wx=> ∃(k:Nat) (D:DataW Unit),k+g=n∧s21= .int .i64 k∧Hid (wx.ownsMap Tryz.prog 22 (plainElem Tryz.prog 3) w.heap.size k D∧KB D ((xs.take k).map (· %q))∧Below w.heap.size w wx))
   case atStart=>exact ⟨0, .map [],by omega,rfl,za ⟨World.ownsMap_made _ _ _ _,HR0.out,(Below.refl _ _).alloc (Nat.le_refl _) _⟩⟩
   case round=>
    obtain ⟨k,D,hk,rfl,HR⟩:=hrel;cases gk with
    |zero=>
     obtain rfl:k=n:=by omega
     have hsz:Maps.size D=(YS (xs.map (· %q))).length:=by rw [HR.out.2.1.2.1,HN.out,List.take_length]
     have HS:=za hsz;have HBL:=za HR.out.2.2;have hown:=HR.out.1;clear HR hsz;by_cases hlt:(YS (xs.map (· %q))).length< k
     ·rw [←HS.out] at hlt;have hlt':decide (((Maps.size D:Nat):Int)< (k:Int))=true:=by simpa using hlt
      go_wp2_with (first|(at_len;refine wpList_len_own _ rfl _ 275 rfl 22 3 Tryz.underlying275 _ w.heap.size k D rfl hown ?_)|go_in);go_ret;exact ⟨by rw [HRES.out, ←HS.out, ←HN.out];simp [hlt],zl HBL.out⟩
     ·rw [←HS.out] at hlt;have hlt':decide (((Maps.size D:Nat):Int)< (k:Int))=false:=by simpa using hlt
      go_wp2_with (first|(at_len;refine wpList_len_own _ rfl _ 275 rfl 22 3 Tryz.underlying275 _ w.heap.size k D rfl hown ?_)|go_in);go_ret;exact ⟨by rw [HRES.out, ←HS.out, ←HN.out];simp [hlt],zl HBL.out⟩
    |succ m=>
     have hkn:(k:Int)< (n:Int):=by omega
     have hkl:k< xs.length:=by rw [←HN.out];omega
     have hown:=HR.out.1;obtain ⟨g,of,c',e,_,_,hcell,hu⟩:=((H.out.kept (zl HR.out.2.2)).atU hkl);injection e with e1 e2 e3
     subst e1 e3;have hb:=zW xs[k] q hq0;have HP:Hid (KB (D.put (.int .u64 (Int.tmod xs[k] q)) (.lit (.int .i64 0))) ((xs.take (k+1)).map (· %q))):=za (by rw [HT.out k hkl,Int.tmod_eq_emod_of_nonneg hu.1];exact HR.out.2.1.put _ _);have hwf:(Lit.int .u64 (Int.tmod xs[k] q)).wf=true:=by rw [Int.tmod_eq_emod_of_nonneg hu.1];exact WalkArith.wf_u64 ⟨hb.1,by have:=(Ib xs[k] q hu hq0).2;omega⟩
     have HBL:=za HR.out.2.2;have HT':=za (HT.out k hkl);have HME:=za HR.out.2.1;have HUX:=za hu;have HWF:=za hwf;clear HP HR hb hu hwf;have HMP:Hid (∀d,KB (D.put (.int .u64 (Int.tmod xs[k] q)) d) ((xs.take (k+1)).map (· %q))):=za (fun d=>by rw [HT'.out,Int.tmod_eq_emod_of_nonneg HUX.out.1];exact HME.out.put _ d);clear HT' HME HUX;generalize xs[k]=xk at *;go_wp2_with (first
      |(at_lookup;refine wpList_lookup_own_int _ rfl _ _ 275 rfl 22 3 .i64 Dr Tryz.underlying275 Tryz.underlying3 (FG _) w.heap.size k D rfl hown _ _ rfl (keyOf_int_mk Tryz.underlying22 HWF.out) ?_;intro c0 hat hwc)
      |(at_mapUpdate;refine wpList_mapUpdate_own _ rfl _ _ _ 275 rfl 22 3 Dr Tryz.underlying275 _ w.heap.size k D rfl hown (by unfold maxLen;omega) _ _ _ rfl rfl (keyOf_int_mk Tryz.underlying22 HWF.out) _ [] (plainElem_int Tryz.underlying3 (wrap64_wf _)) ?_;intro w1 hown1 hgrow1)
      |go_in)
     go_roundg m
     case measure=>omega
     case rel=>exact ⟨k+1,_,by omega,by go_num,za ⟨hown1,HMP.out _,HBL.out.grown hgrow1 HBL.out.size (fun j hj=>by cases hj;exact Nat.le_refl _)⟩⟩
end
section
open Go Go.RowKit Go.Shelf
def xB(q:Int)(xs:List Int)(at_:Int)(i:Nat):Int:=xD q ((xY q xs i at_).map (·.1))
def GP(q:Int)(xs:List Int)(at_:Int)(i:Nat):Int:=xD q ((xY q xs i at_).map (·.2))
theorem OK{q:Int}{xs:List Int}{i:Nat}{at_:Int}(h:yd (xB q xs at_ i) q):Vx q xs i at_= .tuple #[.int .u64 (TW (xB q xs at_ i) q), .int .u64 (GP q xs at_ i), .int .i64 0]:=by
 unfold Vx;exact if_pos h
theorem My{q:Int}{xs:List Int}{i:Nat}{at_:Int}(h: ¬yd (xB q xs at_ i) q):Vx q xs i at_= .tuple #[.int .u64 0, .int .u64 (GP q xs at_ i), .int .i64 5]:=by
 unfold Vx;exact if_neg h
open Classical in
noncomputable def IQ(q:Int)(xs:List Int)(at_:Int):Int:=if yX xs q=0 then (if ∀i,i< xs.length→yd (xB q xs at_ i) q then 0 else 5) else yX xs q
theorem Rf{xs:List Int}{q:Int}(h:yX xs q=0):zY q=true∧xs.length≤1024:=by
 unfold yX at h;split at h
 ·omega
 ·split at h
  ·omega
  ·exact ⟨by simpa using ‹¬zY q=false›,by omega⟩
theorem JS{a q:Int}(hq:zY q=true)(h:yd a q):U64 (TW a q):=by
 have:=RP h
 simp [zY] at hq;exact ⟨this.1,by omega⟩
end
section
open Go Go.RowKit Go.Shelf
def Rp(p:Par):Bool:=decide (0≤p.K∧0≤p.D∧p.K≤2∧p.D≤4)
end
section
open Go Go.RowKit Go.Shelf
end
section
open Go Go.RowKit Go.Shelf
end
section
open Go Go.RowKit Go.Shelf
end
section
open Go Go.RowKit
end
section
open Go Go.RowKit
end
section
open Go Go.RowKit
end
section
open Go Go.RowKit
theorem ZX{n:Int}(h: -9223372036854775808≤n∧n≤9223372036854775807):wrap64 n=n:=by unfold wrap64;omega
theorem Yt{p:Par}(h:Rp p=true):0≤zX p∧zX p≤10:=by
 simp [Rp] at h;obtain ⟨h1,h2,h3,h4⟩:=h;have e1:wrap64 (p.D+1)=p.D+1:=ZX (by omega);have h5:0≤p.K*(p.D+1):=Int.mul_nonneg h1 (by omega);have h6:p.K*(p.D+1)≤2*5:=Int.mul_le_mul h3 (by omega) (by omega) (by omega);have e2:zX p=p.K*(p.D+1):=by unfold zX;rw [e1];exact ZX (by omega)
 rw [e2];omega
end
section
open Go Go.RowKit
end
section
open Go Go.RowKit
end
section
open Go Go.RowKit
theorem VQ{w:World}{a b:Obj}:w.grownBy ((w.alloc a).alloc b) none:=(gAl w _ none).trans (gAl _ _ none)
theorem Bk.one{w:World}{b:Nat}{t:TypeId}{u:Value}(h:Bk w b t #[u]): ∀j v, [u][j]? =some v→w.cell? ⟨b,j,none⟩=some v:=fun j v hv=>by rw [h.cell j];simpa using hv
section
variable {α:Type} {P:Program} {E:Enc α} {base:Nat} {e:TypeId} {X:Nat→Prop} {w:World} {v:Value} {xs:List α}
theorem yj{cs:List Value}{y:α}{t:TypeId}{bytes b c:Nat}(hE:zA P t e E.size bytes)(hacc:Acc E base e X w v xs)(hrep:E.rep (fun g=>X g∧some g≠v.ownBlock) w cs y)(hcell: ∀j u,cs[j]? =some u→w.cell? ⟨b,j,none⟩=some u)
  (hlen:(xs.length+1)*bytes≤140737488355328) (hb:base≤w.heap.size) (hN: ∀g,w.heap.size≤g→X g)
  {o:Oper} {a:Act} {K:Act→World→Prop} {Q:Exit→Act→World→Prop} (s x:Operand)
  (ho:o.op= .call {callee:= .builtin .append,args:= #[s,x],argTypes:= #[t,t]}) (hs:a.eval s=v) (hx:a.eval x= .slice (some ⟨b,0,none⟩) 1 c)
  (h: ∀v' w',Acc E base e X w' v' (xs++ [y])→w.grownBy w' v.ownBlock→xM w v v'→K (a.put o.dst v') w'):o.wp P a w K Q:=by
 obtain ⟨_,css,h1,_,h3⟩:=id hacc;have hcl:=E.len hrep;refine Mg s x t ho (size:=E.size) hE E.pos hs h3 (some ⟨b,0,none⟩) 1 c cs hx (by rw [hcl,Nat.one_mul]) (by simp) ?_ (E.ones hrep) hlen hb ?_
 ·intro ad e' j u hu;injection e' with e'
  subst e';rw [←hcell j u hu];unfold Addr.add;split
  ·rename_i h0
   have:j=0:=by simpa using h0
   subst this;rfl
  ·simp
 ·intro v' w' hown hg hat;have hat':xM w v v':=hat.imp id fun e=>⟨_,Nat.le_refl _,e⟩
  refine h v' w' (hacc.app (cs2:= [cs]) (ys:= [y]) rfl (fun i hi hi'=> ?_) (fun css' hc'=> ?_) hg hat' hN) hg hat'
  ·have:i=0:=by simp at hi;omega
   subst this;exact hrep
  ·have e1:css'=css.flatten:=YY hc' h3;rw [e1];simpa using hown
end
end
section
open Go Go.RowKit
theorem RE(x:Int×Int)(w:World)(hx:U64 x.1∧U64 x.2):
  Calls Tryz.prog 159 #[.agg #[.int .u64 x.1, .int .u64 x.2]] w (zH ze (fun g=>w.heap.size≤g) w [x.1,x.2]):=by
 have HX:=za hx;have HS:Hid (Sl ze (fun g=>w.heap.size≤g) ((w.alloc (Obj.cells #[.int .u64 x.1, .int .u64 x.2] 153)).alloc (.cells #[.int .u64 x.1, .int .u64 x.2] 22)) (.slice (some ⟨w.heap.size+1,0,none⟩) 2 2) [x.1,x.2]):=za (by
  have h:=Bk.new (w.alloc (Obj.cells #[.int .u64 x.1, .int .u64 x.2] 153)) 22 #[.int .u64 x.1, .int .u64 x.2];rw [World.size_alloc] at h;exact Sl.block (xs:= [x.1,x.2]) h (by omega) [[.int .u64 x.1], [.int .u64 x.2]] rfl (fun i hi hi'=>by
   match i,hi with
   |0,_=>exact ⟨rfl,HX.out.1⟩
   |1,_=>exact ⟨rfl,HX.out.2⟩) rfl (Nat.le_refl _) (by decide))
 obtain ⟨a,b⟩:=x;clear hx;go_enter Tryz.func159,Tryz.ntmps159;go_wp2;go_ret;exact ⟨_,rfl,HS.out,VQ⟩
theorem TE(v:Value)(l:List (Int×Int))(X:Nat→Prop)(w:World)(h:Sl zo X w v l)(hb:l.length≤1000):
  Calls Tryz.prog 158 #[v, .func (.func 159) #[] #[]] w (zH (zh ze) (fun g=>w.heap.size≤g) w (l.map fun x=> [x.1,x.2])):=by
 have H:=za h;have HB:=za hb;obtain ⟨A,c,rfl,hc1,hc2⟩:=h.form;clear h hb;go_enter Tryz.func158,Tryz.ntmps158;go_wp2_with fail;go_loopg [5,10] l.length (fun g s5 s10 wx=> ∃j:Nat,j+g=l.length∧s10= .int .i64 j∧Hid (Acc (zh ze) w.heap.size 31 (fun g=>w.heap.size≤g) wx s5 ((l.take j).map fun x=> [x.1,x.2])∧w.grownBy wx none))
 case atStart=>exact ⟨0,by omega,rfl,za ⟨Acc.nil _ _ _ _ _,gRf⟩⟩
 case round=>
  obtain ⟨j,hj,rfl,HX⟩:=hrel;cases gk with
  |zero=>
   obtain rfl:j=l.length:=by omega
   have HR:Hid (Sl (zh ze) (fun g=>w.heap.size≤g) wr u5 (l.map fun x=> [x.1,x.2])∧w.grownBy wr none):=za ⟨by have:=HX.out.1.sl;rwa [List.take_length] at this,HX.out.2⟩;clear HX;go_wp2;go_ret;exact ⟨_,rfl,HR.out.1,HR.out.2⟩
  |succ m=>
   have hjn:(j:Int)< (l.length:Int):=by omega
   have hjN:j< l.length:=by omega
   obtain ⟨hacc,hg⟩:=HX.out;obtain ⟨g,o,c',e,_,_,hc0,hc1',hu1,hu2⟩:=(H.out.kept hg).atP hjN;injection e with e1 e2 e3
   subst e1 e3;have HSN:Hid ((l.take (j+1)).map (fun x=> [x.1,x.2])=(l.take j).map (fun x=> [x.1,x.2])++ [[l[j].1,l[j].2]]):=za (by rw [List.take_succ_eq_append_getElem hjN,List.map_append];rfl);have HU:=za (And.intro hu1 hu2);have HAC:=za hacc;have HG:=za hg;have HLB:Hid ((((l.take j).map fun x=> [x.1,x.2]).length+1)*24≤140737488355328):=za (by have:=HB.out;simp;omega);obtain ⟨y,hy⟩: ∃y,y=l[j]:=⟨_,rfl⟩;rw [←hy] at HSN HU hc0 hc1';obtain ⟨wa,hwa⟩: ∃y2,y2=wr.alloc (Obj.cells #[.int .u64 y.1, .int .u64 y.2] 153):=⟨_,rfl⟩;have HGA:Hid (wr.grownBy wa none):=za (by rw [hwa];exact gAl _ _ none);have hbx:Bk wa wr.heap.size 153 #[.int .u64 y.1, .int .u64 y.2]:=by rw [hwa];exact Bk.new _ _ _
   have HC:=za (RE y wa HU.out);obtain ⟨ya,yb⟩:=y;simp only at hc0 hc1' HC HSN hwa hbx;have d0:=hbx.cell 0;have d1:=hbx.cell 1;simp at d0 d1;clear hacc hg HX hu1 hu2 e2 hy hbx;generalize l.length=n at *;go_wp2_with fail;rw [←hwa];clear hwa;refine HC.out.mono ?_;rintro e w1 ⟨v1,rfl,hs1,hg1⟩;obtain ⟨A1,c1,e1,_,_⟩:=hs1.form;subst e1;have HG1:Hid (w.grownBy w1 none):=za (HG.out.trans (HGA.out.trans hg1));have HAC1:=za (HAC.out.kept (HGA.out.trans hg1));have HREP:Hid ((zh ze).rep (fun g=>w.heap.size≤g∧some g≠u5.ownBlock) w1 [.slice A1 2 c1] [ya,yb]):=za ⟨_,rfl,hs1.more fun g _ h=>⟨Nat.le_trans (HG.out.trans HGA.out).size h,fun e=>by have h1:=(HAC.out.lt g e.symm).2;have h2:=HGA.out.size;omega⟩⟩;clear hs1 hg1 d0 d1 hc0 hc1';go_wp2_with (at_builtin;refine zC rfl (.tmp 14) (.tmp 18) rfl (E:=zh ze) (y:= [ya,yb]) Zb HG1.out HAC1.out (fun _ h=>h) HREP.out HLB.out rfl rfl ?_);intro v2 w2 hacc2 hg2 hgo;have HFIN:Hid (Acc (zh ze) w.heap.size 31 (fun g=>w.heap.size≤g) w2 v2 ((l.take (j+1)).map fun x=> [x.1,x.2])∧w.grownBy w2 none):=za ⟨by rw [HSN.out];simpa using hacc2,hg2⟩;clear hacc2 hg2 hgo;go_wp2_with fail;go_roundg m
   case measure=>omega
   case rel=>exact ⟨j+1,by omega,by go_num,HFIN⟩
theorem Xf(v:Value)(ls:List (List Int))(X:Nat→Prop)(w:World)(h:Sl (zh ze) X w v ls)(hb:ls.length≤1000)(hb2: ∀x∈ls,x.length≤1000):
  Calls Tryz.prog 111 #[v] w (zH ze (fun g=>w.heap.size≤g) w ls.flatten):=by
 have H:=za h;have HB2:=za hb2;have HB:=za hb;obtain ⟨A,c,rfl,hc1,hc2⟩:=h.form;have HLN:Hid (∀j,(ls.take j).flatten.length≤j*1000):=za (fun j=>by
  induction j with
  |zero=>simp
  |succ j ih=>
   rcases Nat.lt_or_ge j ls.length with h|h
   ·rw [List.take_succ_eq_append_getElem h,List.flatten_append,List.length_append];have h1:=hb2 _ (List.getElem_mem h);have h2: [ls[j]].flatten.length=ls[j].length:=by simp
    rw [h2,Nat.add_mul];exact Nat.add_le_add ih (by rw [Nat.one_mul];exact h1)
   ·rw [List.take_of_length_le (show ls.length≤j+1 from Nat.le_succ_of_le h)];rw [List.take_of_length_le h] at ih;exact Nat.le_trans ih (Nat.mul_le_mul_right _ (Nat.le_succ j)))
 clear h hb hb2;go_enter Tryz.func111,Tryz.ntmps111;go_wp2_with fail;go_loopg [3,8] ls.length (fun g s3 s8 wx=> ∃j:Nat,j+g=ls.length∧s8= .int .i64 j∧Hid (Acc ze w.heap.size 22 (fun g=>w.heap.size≤g) wx s3 (ls.take j).flatten∧w.grownBy wx none))
 case atStart=>exact ⟨0,by omega,rfl,za ⟨Acc.nil _ _ _ _ _,gRf⟩⟩
 case round=>
  obtain ⟨j,hj,rfl,HX⟩:=hrel;cases gk with
  |zero=>
   obtain rfl:j=ls.length:=by omega
   have HR:Hid (Sl ze (fun g=>w.heap.size≤g) wr u3 ls.flatten∧w.grownBy wr none):=za ⟨by have:=HX.out.1.sl;rwa [List.take_length] at this,HX.out.2⟩;clear HX;go_wp2;go_ret;exact ⟨_,rfl,HR.out.1,HR.out.2⟩
  |succ m=>
   have hjn:(j:Int)< (ls.length:Int):=by omega
   have hjN:j< ls.length:=by omega
   obtain ⟨hacc,hg⟩:=HX.out;obtain ⟨g,o,c',u,e,_,_,hcu,hu⟩:=(H.out.kept hg).atS hjN;injection e with e1 e2 e3
   subst e1 e3;have HSN:Hid ((ls.take (j+1)).flatten=(ls.take j).flatten++ls[j]):=za (by rw [List.take_succ_eq_append_getElem hjN,List.flatten_append];simp);have HAC:=za hacc;have HG:=za hg;obtain ⟨A1,c1,e1,_,_⟩:=hu.form;have HLB:Hid (((ls.take j).flatten.length+ls[j].length)*8≤140737488355328):=za (by have h1:=HLN.out j;have h2:=HB.out;have h3:=HB2.out _ (List.getElem_mem hjN);omega);have HSZ:Hid (w.heap.size≤wr.heap.size):=za hg.size;have HU:=za hu;clear hacc hg HX hu e2;obtain ⟨y,hy⟩: ∃y,y=ls[j]:=⟨_,rfl⟩;rw [←hy] at e1 HSN HLB HU;clear hy;obtain ⟨ny,hny⟩: ∃y2,y2=y.length:=⟨_,rfl⟩;rw [←hny] at e1;subst e1;clear hny;go_wp2_with (at_builtin;refine xo rfl (.tmp 12) (.tmp 13) rfl (E:=ze) xd HAC.out rfl rfl HU.out (fun _ _ h=>h) HLB.out HSZ.out (fun _ h=>Nat.le_trans HSZ.out h) ?_);intro v2 w2 hacc2 hg2 hm2;have HFIN:Hid (Acc ze w.heap.size 22 (fun g=>w.heap.size≤g) w2 v2 (ls.take (j+1)).flatten∧w.grownBy w2 none):=za ⟨by rw [HSN.out];exact hacc2,zB HG.out hg2 (fun k e=>(HAC.out.lt k e).1)⟩;clear hacc2 hg2 hm2;go_wp2_with fail;go_roundg m
   case measure=>omega
   case rel=>exact ⟨j+1,by omega,by go_num,HFIN⟩
theorem US(v:Value)(l:List (Int×Int))(X:Nat→Prop)(w:World)(h:Sl zo X w v l)(hb:l.length≤1000):
  Calls Tryz.prog 113 #[v] w (zH ze (fun g=>w.heap.size≤g) w (l.map fun x=> [x.1,x.2]).flatten):=by
 have HE:=za (TE v l X w h hb);have HF:=za (fun u Y w' (hs:Sl (zh ze) Y w' u (l.map fun x=> [x.1,x.2]))=>Xf u _ Y w' hs (by simpa using hb) (fun x hx=>by obtain ⟨y,_,rfl⟩:=List.mem_map.1 hx;simp));obtain ⟨A,c,rfl,_,_⟩:=h.form;clear h;go_enter Tryz.func113,Tryz.ntmps113;go_wp2_with fail;refine HE.out.mono ?_;rintro e w1 ⟨v1,rfl,hs1,hg1⟩;have HG1:=za hg1;have HS1:=za hs1;clear hs1 hg1;go_wp2_with fail;refine (HF.out _ _ _ HS1.out).mono ?_;rintro e w2 ⟨v2,rfl,hs2,hg2⟩;have HR:Hid (Sl ze (fun g=>w.heap.size≤g) w2 v2 (l.map fun x=> [x.1,x.2]).flatten∧w.grownBy w2 none):=za ⟨hs2.more fun g _ h=>Nat.le_trans HG1.out.size h,HG1.out.trans hg2⟩;clear hs2 hg2;go_wp2;go_ret;exact ⟨_,rfl,HR.out⟩
end
section
open Go Go.RowKit Go.Shelf
attribute [local go_sem] Oper.semAt_some
end
end Go.Proofs.YtkdfjkdphdfclaaGreatDoor

/- Part 3 of the proof of a card of AvssAnew. -/
import Derived.Test.YtkdfjkdphdfclaaGreatDoorV1
set_option maxRecDepth 100000
set_option maxHeartbeats 16000000
set_option linter.unusedVariables false
set_option linter.unusedSimpArgs false
namespace Go.Proofs.YtkdfjkdphdfclaaGreatDoor
open Tryz
section
open Go Go.RowKit Go.Shelf
attribute [local go_sem] Oper.semAt_some
def Zs{α:Type}(a b:List (List α)):List (List α×List α):=(List.range (max a.length b.length)).map fun i=>(a[i]?.getD [],b[i]?.getD [])
abbrev SS{α:Type}(E:Enc α)(X:Nat→Prop)(w₀:World)(G:List α→Prop):={x:(Value×List α)×(Value×List α) // (Sl E X w₀ x.1.1 x.1.2∧G x.1.2)∧(Sl E X w₀ x.2.1 x.2.2∧G x.2.2)}
def SS.lists{α:Type}{E:Enc α}{X:Nat→Prop}{w₀:World}{G:List α→Prop}(x:SS E X w₀ G):List α×List α:=(x.1.1.2,x.1.2.2)
theorem VD{α:Type}{G:List α→Prop}(h0:G []){l:List (List α)}(h: ∀c∈l,G c)(k:Nat):G (l[k]?.getD []):=by
 by_cases hk:k< l.length
 ·rw [List.getElem?_eq_getElem hk];exact h _ (lGm hk)
 ·rw [List.getElem?_eq_none (by omega)];exact h0
theorem RV(v:Value)(l:List (List Int))(i:Nat)(X:Nat→Prop)(w₀:World)(h:Sl (zh ze) X w₀ v l)(hi:(i:Int)≤9223372036854775807):
  ∃u,Sl ze X w₀ u (l[i]?.getD [])∧ ∀w,w₀.grownBy w none→Calls prog 189 #[v, .int .i64 i] w fun e w'=>e= .returned u∧w'=w:=by
 have H:=za h;obtain ⟨A,c,rfl,hc1,hc2⟩:=h.form;have hi0:(0:Int)≤(i:Int):=by omega
 by_cases hl:i< l.length
 ·obtain ⟨g,o,c',u,e,_,_,hcu,hsu⟩:=h.atS hl;injection e with e1 e2 e3
  subst e1 e3;refine ⟨u,by rw [show l[i]?.getD []=l[i] by rw [List.getElem?_eq_getElem hl];rfl];exact hsu,fun w hw=> ?_⟩;have hcw:w.cell? ⟨g,o+i,none⟩=some u:=by
   obtain ⟨g',o',c'',u',e',hg',_,hcu',_⟩:=h.atS hl;injection e' with e1 e2 e3
   injection e1 with e1
   injection e1 with e1 e4
   subst e1 e4;rw [World.cell?_of_block (w:=w₀) (hw.block _ hg' (by simp))];exact hcu
  obtain ⟨A1,c1,rfl,_,_⟩:=hsu.form;have hli:(i:Int)< (l.length:Int):=by omega
  clear h e2 hsu hcu;go_enter func189,ntmps189;go_wp2;go_ret;exact ⟨rfl,rfl⟩
 ·have hli: ¬(i:Int)< (l.length:Int):=by omega
  have hli2:(l.length:Int)≤(i:Int):=by omega
  refine ⟨.slice none 0 0,by rw [show l[i]?.getD []= [] by rw [List.getElem?_eq_none (by omega)];rfl];exact Sl.nil _ _ _,fun w hw=> ?_⟩;clear h;go_enter func189,ntmps189;go_wp2;go_ret;exact ⟨rfl,rfl⟩
theorem KS(n:Nat)(hn:1≤n)(l Ba Bb:Nat)(va vb:Value)(a b:List (List Int))(X:Nat→Prop)(w₀:World)(G:List Int→Prop)(q0:G [])(D0: ∀c∈a,G c)(C0: ∀c∈b,G c)(J Jx:List (SS ze X w₀ G)→World→Prop)
  (hY: ∀pre x W,J pre W→pre.length< (Zs a b).length→YieldAt Fence.wide (n - 1) prog l #[x.1.1.1,x.1.2.1] W fun e W'=>
   (e= .returned (.bool true)∧J (pre++ [x]) W'∧xo w₀.heap.size Ba Bb W W')∨(e= .returned (.bool false)∧Jx (pre++ [x]) W'))
  (W:World) (hJ:AbidesFrom W.heap.size J) (B0:Below w₀.heap.size w₀ W) (u0:Boxed W Ba 43 va) (t0:Boxed W Bb 43 vb) (hA:Sl (zh ze) X w₀ va a) (hB:Sl (zh ze) X w₀ vb b) (h0:J [] W):
  CallsIn Fence.wide n prog 188 #[.func (.yield l) #[] #[], .pointer (some ⟨Ba,0,none⟩), .pointer (some ⟨Bb,0,none⟩)] W fun e W'=>(∃v,e= .returned v)∧
   ((∃ys,ys.map SS.lists=Zs a b∧J ys W')∨(∃pre,True∧Jx pre W')):=by
 refine callsIn_of_wp func188 rfl trivial ?_ rfl;simp only [ntmps188,List.size_toArray,List.length_cons,List.length_nil,Nat.reduceAdd,Nat.reduceSub,Array.replicate_succ,Array.replicate_zero,List.push_toArray,List.append_toArray,List.nil_append,List.cons_append];obtain ⟨A1,c1,rfl,_,_⟩:=hA.form;obtain ⟨A2,c2,rfl,_,_⟩:=hB.form;have ca:=u0.cell;have cb:=t0.cell;have HA:=za hA;have HB:=za hB;have HL:Hid ((Zs a b).length=max a.length b.length):=za (by simp [Zs]);have I0:Hid (∀k (h:k< (Zs a b).length),(Zs a b)[k]=(a[k]?.getD [],b[k]?.getD [])):=za (fun k h=>by simp [Zs]);have O0:a.length≤9223372036854775807:=hA.bound;have N0:b.length≤9223372036854775807:=hB.bound;have H0:=za u0;have G0:=za t0;have F0:=za h0;clear hA hB u0 t0 h0;by_cases M0:a.length< b.length
 ·have HN:Hid (b.length=(Zs a b).length):=za (by rw [HL.z];omega)
  gi_wp2
  gi_loopw [10] (fun s10 wr=> ∃(k:Nat) (pre:List (SS ze X w₀ G)),k≤b.length∧s10= .int .i64 k∧Hid (pre.map SS.lists=(Zs a b).take k∧J pre wr∧xo w₀.heap.size Ba Bb W wr)) (fun s10 _=>b.length - (intOf s10).toNat)
  case atStart=>exact ⟨0, [],by omega,rfl,za ⟨rfl,F0.z,xo.refl _ _ _ _⟩⟩
  case round=>
   obtain ⟨k,pre,hk,rfl,HX⟩:=hrel;by_cases s0:k< b.length
   ·have J0:(k:Int)< (b.length:Int):=by omega
    have k0:k< (Zs a b).length:=by rw [←HN.z];exact s0
    have n0:(k:Int)≤9223372036854775807:=by omega
    have r0:pre.length=k:=by have:=congrArg List.length HX.z.1;simpa [Nat.min_eq_left (Nat.le_of_lt k0)] using this
    have L0:wr.cell? ⟨Ba,0,none⟩=some (.slice A1 a.length c1):=(World.cell?_of_block (w:=W) HX.z.2.2.2.1).trans H0.z.cell;have K0:wr.cell? ⟨Bb,0,none⟩=some (.slice A2 b.length c2):=(World.cell?_of_block (w:=W) HX.z.2.2.2.2).trans G0.z.cell;have o0:J pre wr.drew:=hJ _ wr wr.drew none HX.z.2.1 (zf (gRr wr none) 1) (by simp);have y0:Hid (w₀.grownBy wr none):=za (zl (B0.trans HX.z.2.2.1));obtain ⟨g0,b0,d0⟩:=RV _ a k X w₀ HA.z n0;obtain ⟨f0,a0,c0⟩:=RV _ b k X w₀ HB.z n0;obtain ⟨xa,j0⟩:=exq (a[k]?.getD []);obtain ⟨xb,i0⟩:=exq (b[k]?.getD []);rw [←j0] at b0;rw [←i0] at a0;have m0:G xa:=by rw [j0];exact VD q0 D0 k
    have l0:G xb:=by rw [i0];exact VD q0 C0 k
    obtain ⟨fn,tmps,assign,body,hy,hR⟩:=hY _ (⟨((g0,xa),(f0,xb)),⟨b0,m0⟩,⟨a0,l0⟩⟩:SS ze X w₀ G) wr.drew o0 (by rw [r0];exact k0);dsimp only at hy;have HR:=za (hR.mono (R':=fun e W'=> ∃bb:Bool,e= .returned (.bool bb)∧Hid ((bb=true∧J (pre++ [(⟨((g0,xa),(f0,xb)),⟨b0,m0⟩,⟨a0,l0⟩⟩:SS ze X w₀ G)]) W'∧xo w₀.heap.size Ba Bb wr.drew W')∨(bb=false∧Jx (pre++ [(⟨((g0,xa),(f0,xb)),⟨b0,m0⟩,⟨a0,l0⟩⟩:SS ze X w₀ G)]) W'))) (fun e W' h=>by
     rcases h with ⟨h1,h2,h3⟩|⟨h1,h2⟩
     ·exact ⟨true,h1,za (.inl ⟨rfl,h2,h3⟩)⟩
     ·exact ⟨false,h1,za (.inr ⟨rfl,h2⟩)⟩))
    have A0:=za d0;have z0:=za c0;have v0:Hid ((pre++ [(⟨((g0,xa),(f0,xb)),⟨b0,m0⟩,⟨a0,l0⟩⟩:SS ze X w₀ G)]).map SS.lists=(Zs a b).take (k+1)):=za (by
     rw [lMa,HX.z.1,tSg k0,I0.z k k0, ←j0, ←i0];rfl)
    have p0:Hid (w₀.grownBy wr.drew none):=za (zf y0.z 1);clear hR o0 ca cb j0 i0 d0 c0
    gi_wp2
    gi_region_with (first
     |(refine ⟨trivial, ?_⟩;gi_at_call 189;(with_reducible refine (callsIn_wide.2 (A0.z _ p0.z)).mono ?_);rintro e w' ⟨rfl,rfl⟩)
     |(refine ⟨trivial, ?_⟩;gi_at_call 189;(with_reducible refine (callsIn_wide.2 (z0.z _ p0.z)).mono ?_);rintro e w' ⟨rfl,rfl⟩)
     |((with_reducible refine HR.z.mono ?_);rintro e W' ⟨bb,rfl,hout⟩))
    all_goals (cases bb with
     |true=>
      gi_wp2
      rcases hout.out with ⟨_,hJ2,hK2⟩|⟨h,_⟩
      ·exact ⟨⟨k+1,_,by omega,by go_num,za ⟨v0.z,hJ2,HX.z.2.2.trans ((xo.drew _ _ _ wr).trans hK2)⟩⟩,by simp [intOf];omega⟩
      ·cases h
     |false=>
      gi_wp2
      rcases hout.out with ⟨h,_⟩|⟨_,hJx2⟩
      ·cases h
      ·refine bodyPost_ret (results_none rfl _ _ _) rfl ?_;exact ⟨⟨_,rfl⟩, .inr ⟨_,hJx2⟩⟩)
   ·obtain rfl:k=b.length:=by omega
    gi_wp2
    go_end0;exact ⟨⟨_,rfl⟩, .inl ⟨pre,by rw [HX.z.1,HN.z,List.take_length],HX.z.2.1⟩⟩
 ·have HN:Hid (a.length=(Zs a b).length):=za (by rw [HL.z];omega)
  gi_wp2
  gi_loopw [10] (fun s10 wr=> ∃(k:Nat) (pre:List (SS ze X w₀ G)),k≤a.length∧s10= .int .i64 k∧Hid (pre.map SS.lists=(Zs a b).take k∧J pre wr∧xo w₀.heap.size Ba Bb W wr)) (fun s10 _=>a.length - (intOf s10).toNat)
  case atStart=>exact ⟨0, [],by omega,rfl,za ⟨rfl,F0.z,xo.refl _ _ _ _⟩⟩
  case round=>
   obtain ⟨k,pre,hk,rfl,HX⟩:=hrel;by_cases s0:k< a.length
   ·have J0:(k:Int)< (a.length:Int):=by omega
    have k0:k< (Zs a b).length:=by rw [←HN.z];exact s0
    have n0:(k:Int)≤9223372036854775807:=by omega
    have r0:pre.length=k:=by have:=congrArg List.length HX.z.1;simpa [Nat.min_eq_left (Nat.le_of_lt k0)] using this
    have L0:wr.cell? ⟨Ba,0,none⟩=some (.slice A1 a.length c1):=(World.cell?_of_block (w:=W) HX.z.2.2.2.1).trans H0.z.cell;have K0:wr.cell? ⟨Bb,0,none⟩=some (.slice A2 b.length c2):=(World.cell?_of_block (w:=W) HX.z.2.2.2.2).trans G0.z.cell;have o0:J pre wr.drew:=hJ _ wr wr.drew none HX.z.2.1 (zf (gRr wr none) 1) (by simp);have y0:Hid (w₀.grownBy wr none):=za (zl (B0.trans HX.z.2.2.1));obtain ⟨g0,b0,d0⟩:=RV _ a k X w₀ HA.z n0;obtain ⟨f0,a0,c0⟩:=RV _ b k X w₀ HB.z n0;obtain ⟨xa,j0⟩:=exq (a[k]?.getD []);obtain ⟨xb,i0⟩:=exq (b[k]?.getD []);rw [←j0] at b0;rw [←i0] at a0;have m0:G xa:=by rw [j0];exact VD q0 D0 k
    have l0:G xb:=by rw [i0];exact VD q0 C0 k
    obtain ⟨fn,tmps,assign,body,hy,hR⟩:=hY _ (⟨((g0,xa),(f0,xb)),⟨b0,m0⟩,⟨a0,l0⟩⟩:SS ze X w₀ G) wr.drew o0 (by rw [r0];exact k0);dsimp only at hy;have HR:=za (hR.mono (R':=fun e W'=> ∃bb:Bool,e= .returned (.bool bb)∧Hid ((bb=true∧J (pre++ [(⟨((g0,xa),(f0,xb)),⟨b0,m0⟩,⟨a0,l0⟩⟩:SS ze X w₀ G)]) W'∧xo w₀.heap.size Ba Bb wr.drew W')∨(bb=false∧Jx (pre++ [(⟨((g0,xa),(f0,xb)),⟨b0,m0⟩,⟨a0,l0⟩⟩:SS ze X w₀ G)]) W'))) (fun e W' h=>by
     rcases h with ⟨h1,h2,h3⟩|⟨h1,h2⟩
     ·exact ⟨true,h1,za (.inl ⟨rfl,h2,h3⟩)⟩
     ·exact ⟨false,h1,za (.inr ⟨rfl,h2⟩)⟩))
    have A0:=za d0;have z0:=za c0;have v0:Hid ((pre++ [(⟨((g0,xa),(f0,xb)),⟨b0,m0⟩,⟨a0,l0⟩⟩:SS ze X w₀ G)]).map SS.lists=(Zs a b).take (k+1)):=za (by
     rw [lMa,HX.z.1,tSg k0,I0.z k k0, ←j0, ←i0];rfl)
    have p0:Hid (w₀.grownBy wr.drew none):=za (zf y0.z 1);clear hR o0 ca cb j0 i0 d0 c0
    gi_wp2
    gi_region_with (first
     |(refine ⟨trivial, ?_⟩;gi_at_call 189;(with_reducible refine (callsIn_wide.2 (A0.z _ p0.z)).mono ?_);rintro e w' ⟨rfl,rfl⟩)
     |(refine ⟨trivial, ?_⟩;gi_at_call 189;(with_reducible refine (callsIn_wide.2 (z0.z _ p0.z)).mono ?_);rintro e w' ⟨rfl,rfl⟩)
     |((with_reducible refine HR.z.mono ?_);rintro e W' ⟨bb,rfl,hout⟩))
    all_goals (cases bb with
     |true=>
      gi_wp2
      rcases hout.out with ⟨_,hJ2,hK2⟩|⟨h,_⟩
      ·exact ⟨⟨k+1,_,by omega,by go_num,za ⟨v0.z,hJ2,HX.z.2.2.trans ((xo.drew _ _ _ wr).trans hK2)⟩⟩,by simp [intOf];omega⟩
      ·cases h
     |false=>
      gi_wp2
      rcases hout.out with ⟨h,_⟩|⟨_,hJx2⟩
      ·cases h
      ·refine bodyPost_ret (results_none rfl _ _ _) rfl ?_;exact ⟨⟨_,rfl⟩, .inr ⟨_,hJx2⟩⟩)
   ·obtain rfl:k=a.length:=by omega
    gi_wp2
    go_end0;exact ⟨⟨_,rfl⟩, .inl ⟨pre,by rw [HX.z.1,HN.z,List.take_length],HX.z.2.1⟩⟩
theorem RX(v:Value)(l:List (List (List Int)))(i:Nat)(X:Nat→Prop)(w₀:World)(h:Sl (zh (zh ze)) X w₀ v l)(hi:(i:Int)≤9223372036854775807):
  ∃u,Sl (zh ze) X w₀ u (l[i]?.getD [])∧ ∀w,w₀.grownBy w none→Calls prog 193 #[v, .int .i64 i] w fun e w'=>e= .returned u∧w'=w:=by
 have H:=za h;obtain ⟨A,c,rfl,hc1,hc2⟩:=h.form;have hi0:(0:Int)≤(i:Int):=by omega
 by_cases hl:i< l.length
 ·obtain ⟨g,o,c',u,e,_,_,hcu,hsu⟩:=h.atS hl;injection e with e1 e2 e3
  subst e1 e3;refine ⟨u,by rw [show l[i]?.getD []=l[i] by rw [List.getElem?_eq_getElem hl];rfl];exact hsu,fun w hw=> ?_⟩;have hcw:w.cell? ⟨g,o+i,none⟩=some u:=by
   obtain ⟨g',o',c'',u',e',hg',_,hcu',_⟩:=h.atS hl;injection e' with e1 e2 e3
   injection e1 with e1
   injection e1 with e1 e4
   subst e1 e4;rw [World.cell?_of_block (w:=w₀) (hw.block _ hg' (by simp))];exact hcu
  obtain ⟨A1,c1,rfl,_,_⟩:=hsu.form;have hli:(i:Int)< (l.length:Int):=by omega
  clear h e2 hsu hcu;go_enter func193,ntmps193;go_wp2;go_ret;exact ⟨rfl,rfl⟩
 ·have hli: ¬(i:Int)< (l.length:Int):=by omega
  have hli2:(l.length:Int)≤(i:Int):=by omega
  refine ⟨.slice none 0 0,by rw [show l[i]?.getD []= [] by rw [List.getElem?_eq_none (by omega)];rfl];exact Sl.nil _ _ _,fun w hw=> ?_⟩;clear h;go_enter func193,ntmps193;go_wp2;go_ret;exact ⟨rfl,rfl⟩
theorem KU(n:Nat)(hn:1≤n)(l Ba Bb:Nat)(va vb:Value)(a b:List (List (List Int)))(X:Nat→Prop)(w₀:World)(G:List (List Int)→Prop)(q0:G [])(D0: ∀c∈a,G c)(C0: ∀c∈b,G c)(J Jx:List (SS (zh ze) X w₀ G)→World→Prop)
  (hY: ∀pre x W,J pre W→pre.length< (Zs a b).length→YieldAt Fence.wide (n - 1) prog l #[x.1.1.1,x.1.2.1] W fun e W'=>
   (e= .returned (.bool true)∧J (pre++ [x]) W'∧xo w₀.heap.size Ba Bb W W')∨(e= .returned (.bool false)∧Jx (pre++ [x]) W'))
  (W:World) (hJ:AbidesFrom W.heap.size J) (B0:Below w₀.heap.size w₀ W) (u0:Boxed W Ba 104 va) (t0:Boxed W Bb 104 vb) (hA:Sl (zh (zh ze)) X w₀ va a) (hB:Sl (zh (zh ze)) X w₀ vb b) (h0:J [] W):
  CallsIn Fence.wide n prog 192 #[.func (.yield l) #[] #[], .pointer (some ⟨Ba,0,none⟩), .pointer (some ⟨Bb,0,none⟩)] W fun e W'=>(∃v,e= .returned v)∧
   ((∃ys,ys.map SS.lists=Zs a b∧J ys W')∨(∃pre,True∧Jx pre W')):=by
 refine callsIn_of_wp func192 rfl trivial ?_ rfl;simp only [ntmps192,List.size_toArray,List.length_cons,List.length_nil,Nat.reduceAdd,Nat.reduceSub,Array.replicate_succ,Array.replicate_zero,List.push_toArray,List.append_toArray,List.nil_append,List.cons_append];obtain ⟨A1,c1,rfl,_,_⟩:=hA.form;obtain ⟨A2,c2,rfl,_,_⟩:=hB.form;have ca:=u0.cell;have cb:=t0.cell;have HA:=za hA;have HB:=za hB;have HL:Hid ((Zs a b).length=max a.length b.length):=za (by simp [Zs]);have I0:Hid (∀k (h:k< (Zs a b).length),(Zs a b)[k]=(a[k]?.getD [],b[k]?.getD [])):=za (fun k h=>by simp [Zs]);have O0:a.length≤9223372036854775807:=hA.bound;have N0:b.length≤9223372036854775807:=hB.bound;have H0:=za u0;have G0:=za t0;have F0:=za h0;clear hA hB u0 t0 h0;by_cases M0:a.length< b.length
 ·have HN:Hid (b.length=(Zs a b).length):=za (by rw [HL.z];omega)
  gi_wp2
  gi_loopw [10] (fun s10 wr=> ∃(k:Nat) (pre:List (SS (zh ze) X w₀ G)),k≤b.length∧s10= .int .i64 k∧Hid (pre.map SS.lists=(Zs a b).take k∧J pre wr∧xo w₀.heap.size Ba Bb W wr)) (fun s10 _=>b.length - (intOf s10).toNat)
  case atStart=>exact ⟨0, [],by omega,rfl,za ⟨rfl,F0.z,xo.refl _ _ _ _⟩⟩
  case round=>
   obtain ⟨k,pre,hk,rfl,HX⟩:=hrel;by_cases s0:k< b.length
   ·have J0:(k:Int)< (b.length:Int):=by omega
    have k0:k< (Zs a b).length:=by rw [←HN.z];exact s0
    have n0:(k:Int)≤9223372036854775807:=by omega
    have r0:pre.length=k:=by have:=congrArg List.length HX.z.1;simpa [Nat.min_eq_left (Nat.le_of_lt k0)] using this
    have L0:wr.cell? ⟨Ba,0,none⟩=some (.slice A1 a.length c1):=(World.cell?_of_block (w:=W) HX.z.2.2.2.1).trans H0.z.cell;have K0:wr.cell? ⟨Bb,0,none⟩=some (.slice A2 b.length c2):=(World.cell?_of_block (w:=W) HX.z.2.2.2.2).trans G0.z.cell;have o0:J pre wr.drew:=hJ _ wr wr.drew none HX.z.2.1 (zf (gRr wr none) 1) (by simp);have y0:Hid (w₀.grownBy wr none):=za (zl (B0.trans HX.z.2.2.1));obtain ⟨g0,b0,d0⟩:=RX _ a k X w₀ HA.z n0;obtain ⟨f0,a0,c0⟩:=RX _ b k X w₀ HB.z n0;obtain ⟨xa,j0⟩:=exq (a[k]?.getD []);obtain ⟨xb,i0⟩:=exq (b[k]?.getD []);rw [←j0] at b0;rw [←i0] at a0;have m0:G xa:=by rw [j0];exact VD q0 D0 k
    have l0:G xb:=by rw [i0];exact VD q0 C0 k
    obtain ⟨fn,tmps,assign,body,hy,hR⟩:=hY _ (⟨((g0,xa),(f0,xb)),⟨b0,m0⟩,⟨a0,l0⟩⟩:SS (zh ze) X w₀ G) wr.drew o0 (by rw [r0];exact k0);dsimp only at hy;have HR:=za (hR.mono (R':=fun e W'=> ∃bb:Bool,e= .returned (.bool bb)∧Hid ((bb=true∧J (pre++ [(⟨((g0,xa),(f0,xb)),⟨b0,m0⟩,⟨a0,l0⟩⟩:SS (zh ze) X w₀ G)]) W'∧xo w₀.heap.size Ba Bb wr.drew W')∨(bb=false∧Jx (pre++ [(⟨((g0,xa),(f0,xb)),⟨b0,m0⟩,⟨a0,l0⟩⟩:SS (zh ze) X w₀ G)]) W'))) (fun e W' h=>by
     rcases h with ⟨h1,h2,h3⟩|⟨h1,h2⟩
     ·exact ⟨true,h1,za (.inl ⟨rfl,h2,h3⟩)⟩
     ·exact ⟨false,h1,za (.inr ⟨rfl,h2⟩)⟩))
    have A0:=za d0;have z0:=za c0;have v0:Hid ((pre++ [(⟨((g0,xa),(f0,xb)),⟨b0,m0⟩,⟨a0,l0⟩⟩:SS (zh ze) X w₀ G)]).map SS.lists=(Zs a b).take (k+1)):=za (by
     rw [lMa,HX.z.1,tSg k0,I0.z k k0, ←j0, ←i0];rfl)
    have p0:Hid (w₀.grownBy wr.drew none):=za (zf y0.z 1);clear hR o0 ca cb j0 i0 d0 c0
    gi_wp2
    gi_region_with (first
     |(refine ⟨trivial, ?_⟩;gi_at_call 193;(with_reducible refine (callsIn_wide.2 (A0.z _ p0.z)).mono ?_);rintro e w' ⟨rfl,rfl⟩)
     |(refine ⟨trivial, ?_⟩;gi_at_call 193;(with_reducible refine (callsIn_wide.2 (z0.z _ p0.z)).mono ?_);rintro e w' ⟨rfl,rfl⟩)
     |((with_reducible refine HR.z.mono ?_);rintro e W' ⟨bb,rfl,hout⟩))
    all_goals (cases bb with
     |true=>
      gi_wp2
      rcases hout.out with ⟨_,hJ2,hK2⟩|⟨h,_⟩
      ·exact ⟨⟨k+1,_,by omega,by go_num,za ⟨v0.z,hJ2,HX.z.2.2.trans ((xo.drew _ _ _ wr).trans hK2)⟩⟩,by simp [intOf];omega⟩
      ·cases h
     |false=>
      gi_wp2
      rcases hout.out with ⟨h,_⟩|⟨_,hJx2⟩
      ·cases h
      ·refine bodyPost_ret (results_none rfl _ _ _) rfl ?_;exact ⟨⟨_,rfl⟩, .inr ⟨_,hJx2⟩⟩)
   ·obtain rfl:k=b.length:=by omega
    gi_wp2
    go_end0;exact ⟨⟨_,rfl⟩, .inl ⟨pre,by rw [HX.z.1,HN.z,List.take_length],HX.z.2.1⟩⟩
 ·have HN:Hid (a.length=(Zs a b).length):=za (by rw [HL.z];omega)
  gi_wp2
  gi_loopw [10] (fun s10 wr=> ∃(k:Nat) (pre:List (SS (zh ze) X w₀ G)),k≤a.length∧s10= .int .i64 k∧Hid (pre.map SS.lists=(Zs a b).take k∧J pre wr∧xo w₀.heap.size Ba Bb W wr)) (fun s10 _=>a.length - (intOf s10).toNat)
  case atStart=>exact ⟨0, [],by omega,rfl,za ⟨rfl,F0.z,xo.refl _ _ _ _⟩⟩
  case round=>
   obtain ⟨k,pre,hk,rfl,HX⟩:=hrel;by_cases s0:k< a.length
   ·have J0:(k:Int)< (a.length:Int):=by omega
    have k0:k< (Zs a b).length:=by rw [←HN.z];exact s0
    have n0:(k:Int)≤9223372036854775807:=by omega
    have r0:pre.length=k:=by have:=congrArg List.length HX.z.1;simpa [Nat.min_eq_left (Nat.le_of_lt k0)] using this
    have L0:wr.cell? ⟨Ba,0,none⟩=some (.slice A1 a.length c1):=(World.cell?_of_block (w:=W) HX.z.2.2.2.1).trans H0.z.cell;have K0:wr.cell? ⟨Bb,0,none⟩=some (.slice A2 b.length c2):=(World.cell?_of_block (w:=W) HX.z.2.2.2.2).trans G0.z.cell;have o0:J pre wr.drew:=hJ _ wr wr.drew none HX.z.2.1 (zf (gRr wr none) 1) (by simp);have y0:Hid (w₀.grownBy wr none):=za (zl (B0.trans HX.z.2.2.1));obtain ⟨g0,b0,d0⟩:=RX _ a k X w₀ HA.z n0;obtain ⟨f0,a0,c0⟩:=RX _ b k X w₀ HB.z n0;obtain ⟨xa,j0⟩:=exq (a[k]?.getD []);obtain ⟨xb,i0⟩:=exq (b[k]?.getD []);rw [←j0] at b0;rw [←i0] at a0;have m0:G xa:=by rw [j0];exact VD q0 D0 k
    have l0:G xb:=by rw [i0];exact VD q0 C0 k
    obtain ⟨fn,tmps,assign,body,hy,hR⟩:=hY _ (⟨((g0,xa),(f0,xb)),⟨b0,m0⟩,⟨a0,l0⟩⟩:SS (zh ze) X w₀ G) wr.drew o0 (by rw [r0];exact k0);dsimp only at hy;have HR:=za (hR.mono (R':=fun e W'=> ∃bb:Bool,e= .returned (.bool bb)∧Hid ((bb=true∧J (pre++ [(⟨((g0,xa),(f0,xb)),⟨b0,m0⟩,⟨a0,l0⟩⟩:SS (zh ze) X w₀ G)]) W'∧xo w₀.heap.size Ba Bb wr.drew W')∨(bb=false∧Jx (pre++ [(⟨((g0,xa),(f0,xb)),⟨b0,m0⟩,⟨a0,l0⟩⟩:SS (zh ze) X w₀ G)]) W'))) (fun e W' h=>by
     rcases h with ⟨h1,h2,h3⟩|⟨h1,h2⟩
     ·exact ⟨true,h1,za (.inl ⟨rfl,h2,h3⟩)⟩
     ·exact ⟨false,h1,za (.inr ⟨rfl,h2⟩)⟩))
    have A0:=za d0;have z0:=za c0;have v0:Hid ((pre++ [(⟨((g0,xa),(f0,xb)),⟨b0,m0⟩,⟨a0,l0⟩⟩:SS (zh ze) X w₀ G)]).map SS.lists=(Zs a b).take (k+1)):=za (by
     rw [lMa,HX.z.1,tSg k0,I0.z k k0, ←j0, ←i0];rfl)
    have p0:Hid (w₀.grownBy wr.drew none):=za (zf y0.z 1);clear hR o0 ca cb j0 i0 d0 c0
    gi_wp2
    gi_region_with (first
     |(refine ⟨trivial, ?_⟩;gi_at_call 193;(with_reducible refine (callsIn_wide.2 (A0.z _ p0.z)).mono ?_);rintro e w' ⟨rfl,rfl⟩)
     |(refine ⟨trivial, ?_⟩;gi_at_call 193;(with_reducible refine (callsIn_wide.2 (z0.z _ p0.z)).mono ?_);rintro e w' ⟨rfl,rfl⟩)
     |((with_reducible refine HR.z.mono ?_);rintro e W' ⟨bb,rfl,hout⟩))
    all_goals (cases bb with
     |true=>
      gi_wp2
      rcases hout.out with ⟨_,hJ2,hK2⟩|⟨h,_⟩
      ·exact ⟨⟨k+1,_,by omega,by go_num,za ⟨v0.z,hJ2,HX.z.2.2.trans ((xo.drew _ _ _ wr).trans hK2)⟩⟩,by simp [intOf];omega⟩
      ·cases h
     |false=>
      gi_wp2
      rcases hout.out with ⟨h,_⟩|⟨_,hJx2⟩
      ·cases h
      ·refine bodyPost_ret (results_none rfl _ _ _) rfl ?_;exact ⟨⟨_,rfl⟩, .inr ⟨_,hJx2⟩⟩)
   ·obtain rfl:k=a.length:=by omega
    gi_wp2
    go_end0;exact ⟨⟨_,rfl⟩, .inl ⟨pre,by rw [HX.z.1,HN.z,List.take_length],HX.z.2.1⟩⟩
end
end Go.Proofs.YtkdfjkdphdfclaaGreatDoor

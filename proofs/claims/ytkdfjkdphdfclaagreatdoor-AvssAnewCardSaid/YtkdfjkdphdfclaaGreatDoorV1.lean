/- Part 1 of the proof of a card of AvssAnew. -/
import Derived.Test.YtkdfjkdphdfclaaGreatDoorProg
import Derived.WalkKit
import Derived.WalkSpells
import Derived.WalkLawsBesides
import Derived.Handy
import Derived.Deep.QuietTactic
import Derived.BigQuiet
import Derived.Lib.Hide
import Derived.Lib.Mul64
import Derived.Laws.Bits64b
import Derived.Below
import Derived.Deep.Draws
import Derived.Laws.Rows
import Derived.Laws.OwnMore
import Derived.Maps.AppendAt
import Derived.OwnWalk
import Derived.Deep.AppendLies
import Derived.RangeFuncOwn
import Derived.RegionTactic
import Derived.Lib.Strings
import Derived.Lib.Slices
import Derived.Lib.Small
import Derived.Lib.Walk
import Derived.Lib.BitFns
import Derived.Deep.Light
import Derived.Deep.CutBlock
import Derived.Deep.DeepCutAuto
import Derived.KernelRfl
import Derived.WalkSmall
import Derived.Deep.LoopGhost
import Derived.Outline
import Derived.Deep.RegionHeld3
import Derived.Deep.OwnRows
import Derived.IntWalk
import Derived.RangeFuncNested
import Derived.RangeFuncCalls
import Derived.OwnWalkIn
import Derived.OrdersIn
import Derived.RangeFuncBound
import Derived.RangeFuncLeaves
import Derived.Shelf.Abstract
import Derived.Shelf.RegionOpen
import Derived.TacticsInMore
import Derived.LoopNIn
import Derived.LoopIn
import Derived.Stop.RegionWithIn
import Derived.Deep.RegionWith
import Derived.Orders
import Derived.StillTail
import Derived.TacticsIn
import Derived.Maps.OwnOps
import Derived.Maps.OwnSet
import Derived.Maps.Views
import Derived.Lib.TrailingZeros
import Derived.WalkMore
import Derived.ProofKit
import Derived.OpenShut
import Derived.ChangeOld
import Derived.Deep.Slices
import Derived.DeepKeys4
import Derived.Lib.SliceRun
import Derived.Deep.Quiet
import Derived.Deep.DeepHandedRow
import Derived.Lib.LaidTab
import Derived.Stop.LaidErr
set_option maxRecDepth 100000
set_option maxHeartbeats 16000000
set_option linter.unusedVariables false
set_option linter.unusedSimpArgs false
namespace Go.Proofs.YtkdfjkdphdfclaaGreatDoor
open Tryz
section
open Go.RowKit
theorem Uq{P:Program}{f:FuncId}{args:Array Value}{w:World}{a n:Nat}{v:Value}
  (h:Calls P f args (w.drewN (a+n)) fun e w'=>e= .returned v∧ ∃m,w'=(w.drewN (a+n)).drewN m):
  Calls P f args (w.drewN (a+n)) fun e w''=>e= .returned v∧ ∃m,w''=w.drewN (a+m):=
 h.mono fun _ _ ⟨he,m,hm⟩=>⟨he,n+m,by rw [hm,World.drewN_drewN,Nat.add_assoc]⟩
def U64(a:Int):Prop:=0≤a∧a< 18446744073709551616
namespace Mul64
theorem maskN(a:Nat)(ha:a< 18446744073709551616):bits .and .u64 (a:Int) 4294967295=((a%4294967296:Nat):Int):=by
 have h:=bits_and_u64_nat a 4294967295 ha (by omega);have e:a &&& 4294967295=a%4294967296:=Nat.and_two_pow_sub_one_eq_mod a 32;rw [e] at h;exact h
theorem divN(a:Nat):(a:Int) / 4294967296=((a / 4294967296:Nat):Int):=by omega
theorem mulN(a b:Nat):(a:Int)*(b:Int)=((a*b:Nat):Int):=(Int.natCast_mul a b).symm
theorem addN(a b:Nat):(a:Int)+(b:Int)=((a+b:Nat):Int):=(Int.natCast_add a b).symm
theorem wrapN(a:Nat)(ha:a< 18446744073709551616):IntKind.u64.wrap (a:Int)=(a:Int):=by rw [IntKind.wrap_u64];omega
theorem wrapM(a:Nat):IntKind.u64.wrap (a:Int)=((a%18446744073709551616:Nat):Int):=by rw [IntKind.wrap_u64];omega
end Mul64
def Rd(w:World)(A:Option Addr)(xs:List Value):Prop:=
 xs≠ []→ ∃g o,A=some ⟨g,o,none⟩∧g< w.heap.size∧ ∀j u,xs[j]? =some u→w.cell? ⟨g,o+j,none⟩=some u
theorem Rd.nil(w:World)(A:Option Addr):Rd w A []:=fun h=>absurd rfl h
theorem Rd.keep{w w':World}{A:Option Addr}{xs:List Value}(h:Rd w A xs)(hs:w.heap.size≤w'.heap.size)(hk: ∀g o,A=some ⟨g,o,none⟩→g< w.heap.size→w'.heap[g]? =w.heap[g]?):Rd w' A xs:=fun hn=>by
 obtain ⟨g,o,e,hg,hc⟩:=h hn;refine ⟨g,o,e,by omega,fun j u hu=> ?_⟩;rw [World.cell?_of_block (w:=w) (hk g o e hg)];exact hc j u hu
theorem Rd.grown{w w':World}{row:Option Nat}{A:Option Addr}{xs:List Value}(h:Rd w A xs)(hg:w.grownBy w' row)(hr: ∀g o,A=some ⟨g,o,none⟩→some g≠row):Rd w' A xs:=
 h.keep hg.size fun g o e hlt=>hg.block g hlt (hr g o e)
theorem Rd.own{w:World}{base n c:Nat}{e:TypeId}{A:Option Addr}{xs:List Value}(h:w.ownsRow base e 1 (.slice A n c) n xs):Rd w A xs:=fun hn=>by
 have hl:=h.1;rcases h.2 with ⟨_,h0⟩|⟨g,cap,cur,hv,_,hh,_,_,_,hx⟩
 ·subst h0;exact absurd (List.eq_nil_of_length_eq_zero (by simpa using hl)) hn
 ·have hA:A=some ⟨g,0,none⟩:=by injection hv
  subst hA;refine ⟨g,0,rfl, ?_,fun j u hu=> ?_⟩
  ·rcases Nat.lt_or_ge g w.heap.size with hlt|hge
   ·exact hlt
   ·rw [Array.getElem?_eq_none hge] at hh;cases hh
  ·rw [Nat.zero_add,cell_of_row w g j cur e (0,0) hh, ←Array.getElem?_toList];rw [←hx,List.getElem?_take] at hu;split at hu
   ·exact hu
   ·cases hu
def Bk(w:World)(g:Nat)(t:TypeId)(cs:Array Value):Prop:=w.heap[g]? =some (.cells cs t (0,0))
theorem Bk.lt{w:World}{g:Nat}{t:TypeId}{cs:Array Value}(h:Bk w g t cs):g< w.heap.size:=by
 rcases Nat.lt_or_ge g w.heap.size with hlt|hge
 ·exact hlt
 ·unfold Bk at h;rw [Array.getElem?_eq_none hge] at h;cases h
theorem Bk.cell{w:World}{g:Nat}{t:TypeId}{cs:Array Value}(h:Bk w g t cs)(i:Nat):w.cell? ⟨g,i,none⟩=cs[i]? :=cell_of_row w g i cs t (0,0) h
theorem Bk.free{w:World}{g:Nat}{t:TypeId}{cs:Array Value}(h:Bk w g t cs)(i:Nat):w.frozen? ⟨g,i,none⟩=false:=by
 unfold Bk at h;simp [World.frozen?,h]
theorem Bk.new(w:World)(t:TypeId)(cs:Array Value):Bk (w.alloc (.cells cs t)) w.heap.size t cs:=heap_alloc_new w _
theorem Bk.alloc{w:World}{g:Nat}{t:TypeId}{cs:Array Value}(h:Bk w g t cs)(o:Obj):Bk (w.alloc o) g t cs:=(Below.heap_alloc w o g h.lt).trans h
theorem Bk.set{w:World}{g:Nat}{t:TypeId}{cs:Array Value}(h:Bk w g t cs)(i:Nat)(u:Value):Bk (w.setCell ⟨g,i,none⟩ u) g t (cs.setIfInBounds i u):=by
 unfold Bk at h ⊢;simp [World.setCell,Array.getElem?_modify,h]
theorem Bk.far{w:World}{g:Nat}{t:TypeId}{cs:Array Value}(h:Bk w g t cs){p:Addr}(hp:g≠p.block)(u:Value):Bk (w.setCell p u) g t cs:=(Below.heap_setCell w p u g hp).trans h
theorem Bk.drewN{w:World}{g:Nat}{t:TypeId}{cs:Array Value}(h:Bk w g t cs)(n:Nat):Bk (w.drewN n) g t cs:=h
theorem Bk.grown{w w':World}{g:Nat}{t:TypeId}{cs:Array Value}{row:Option Nat}(h:Bk w g t cs)(hb:w.grownBy w' row)(hg:some g≠row):Bk w' g t cs:=(hb.block g h.lt hg).trans h
theorem zf{w w':World}{row:Option Nat}(h:w.grownBy w' row)(n:Nat):w.grownBy (w'.drewN n) row:=⟨h.os,h.tape,h.output,h.size,h.block⟩
theorem xd{w w':World}{g:Nat}(h:w.grownBy w' (some g))(i:Nat)(u:Value):w.grownBy (w'.setCell ⟨g,i,none⟩ u) (some g):=
 ⟨h.os,h.tape,h.output,by simpa [World.setCell] using h.size,fun k hk hne=>(Below.heap_setCell w' ⟨g,i,none⟩ u k (fun e=>hne (by rw [e]))).trans (h.block k hk hne)⟩
theorem Bk.of_eq{w:World}{g:Nat}{t:TypeId}{cs cs':Array Value}(h:Bk w g t cs)(e:cs=cs'):Bk w g t cs':=e ▸ h
def nums(l:List Int):List Value:=l.map (Value.int .u64)
theorem Nk:(Tryz.prog.info? 22).map (fun i=>(i.zero,i.size,i.bytes))=some (some (.int .u64 0),1,8):=by kernel_rfl
theorem Gh(l:List Int): ∀u∈nums l,u.oneCell'=true:=by
 intro u hu;obtain ⟨x,_,rfl⟩:=List.mem_map.1 hu;rfl
theorem Rd.addr{w:World}{x:Addr}{xs:List Value}(h:Rd w (some x) xs): ∀j u,xs[j]? =some u→w.cell? (x.add j)=some u:=by
 intro j u hu;obtain ⟨g,o,e,hg,hc⟩:=h (by intro h0;rw [h0] at hu;simp at hu);simp only [Option.some.injEq] at e;subst e;have hj:=hc j u hu;unfold Addr.add;split
 ·rename_i h0
  have:j=0:=by simpa using h0
  subst this;exact hj
 ·exact hj
theorem zP{w w0 w1:World}{row:Option Nat}(h:w.grownBy w0 none)(k:w0.grownBy w1 row)(hr: ∀g,row=some g→w.heap.size≤g):w.grownBy w1 none:=
 ⟨k.os.trans h.os,k.tape.trans h.tape,k.output.trans h.output,Nat.le_trans h.size k.size,fun i hi _=>(k.block i (Nat.lt_of_lt_of_le hi h.size) (fun e=>by have:=hr i e.symm;omega)).trans (h.block i hi (by simp))⟩
theorem zG{w w':World}(h:w.grownBy w' none):Below w.heap.size w w':=⟨h.os,h.tape,h.output,h.size,fun k hk=>h.block k hk (by simp)⟩
def I64(a:Int):Prop:= -9223372036854775808≤a∧a≤9223372036854775807
structure Enc (α:Type) where
 size:Nat
 pos:0< size
 rep:(Nat→Prop)→World→List Value→α→Prop
 len: ∀{X w cs x},rep X w cs x→cs.length=size
 ones: ∀{X w cs x},rep X w cs x→ ∀u∈cs,u.oneCell'=true
 keep: ∀{X w w' row cs x},rep X w cs x→w.grownBy w' row→(∀g,X g→some g≠row)→rep X w' cs x
 more: ∀{X Y w cs x},rep X w cs x→(∀g,g< w.heap.size→X g→Y g)→rep Y w cs x
 keepc: ∀{X w w' row cs x},rep X w cs x→w.grownBy w' row→(∀r,row=some r→ ∃o:Obj,w.heap[r]? =some o∧o.isCells=false)→rep X w' cs x
def ze:Enc Int where
 size:=1
 pos:=by decide
 rep:=fun _ _ cs n=>cs= [.int .u64 n]∧U64 n
 len:=fun h=>by rw [h.1];rfl
 ones:=fun h u hu=>by rw [h.1] at hu;simp at hu;subst hu;rfl
 keep:=fun h _ _=>h
 more:=fun h _=>h
 keepc:=fun h _ _=>h
def zq:Enc (Int×Int) where
 size:=2
 pos:=by decide
 rep:=fun _ _ cs x=>cs= [.int .u64 x.1, .int .u64 x.2]∧U64 x.1∧U64 x.2
 len:=fun h=>by rw [h.1];rfl
 ones:=fun h u hu=>by rw [h.1] at hu;simp at hu;rcases hu with rfl|rfl<;>rfl
 keep:=fun h _ _=>h
 more:=fun h _=>h
 keepc:=fun h _ _=>h
def Sl{α:Type}(E:Enc α)(X:Nat→Prop)(w:World)(v:Value)(xs:List α):Prop:=
 ∃A c,v= .slice A xs.length c∧xs.length≤c∧c≤9223372036854775807∧
  (xs≠ []→ ∃g o,A=some ⟨g,o,none⟩∧g< w.heap.size∧X g∧
   ∀i (h:i< xs.length), ∃cs,E.rep X w cs xs[i]∧ ∀j u,cs[j]? =some u→w.cell? ⟨g,o+i*E.size+j,none⟩=some u)
section
variable {α:Type} {E:Enc α} {X Y:Nat→Prop} {w w':World} {v:Value} {xs:List α}
theorem Sl.nil(E:Enc α)(X:Nat→Prop)(w:World):Sl E X w (.slice none 0 0) []:=⟨none,0,rfl,Nat.le_refl _,by omega,fun h=>absurd rfl h⟩
theorem Sl.keep(h:Sl E X w v xs){row:Option Nat}(hg:w.grownBy w' row)(hX: ∀g,X g→some g≠row):Sl E X w' v xs:=by
 obtain ⟨A,c,e,h1,h2,h3⟩:=h;refine ⟨A,c,e,h1,h2,fun hn=> ?_⟩;obtain ⟨g,o,eA,hgl,hXg,hc⟩:=h3 hn;refine ⟨g,o,eA,Nat.lt_of_lt_of_le hgl hg.size,hXg,fun i hi=> ?_⟩;obtain ⟨cs,hr,hcell⟩:=hc i hi;exact ⟨cs,E.keep hr hg hX,fun j u hu=>by rw [World.cell?_of_block (w:=w) (hg.block g hgl (hX g hXg))];exact hcell j u hu⟩
theorem Vq{g o:Nat}{u:Value}{row:Option Nat}(hc:w.cell? ⟨g,o,none⟩=some u)(hr: ∀r,row=some r→ ∃o:Obj,w.heap[r]? =some o∧o.isCells=false):some g≠row:=fun e=>by
 obtain ⟨ob,ho,hn⟩:=hr g e.symm;unfold World.cell? at hc;simp only [ho] at hc;cases ob with
 |cells=>cases hn
 |_=>simp at hc
theorem Sl.keepc(h:Sl E X w v xs){row:Option Nat}(hg:w.grownBy w' row)(hr: ∀r,row=some r→ ∃o:Obj,w.heap[r]? =some o∧o.isCells=false):Sl E X w' v xs:=by
 obtain ⟨A,c,e,h1,h2,h3⟩:=h;refine ⟨A,c,e,h1,h2,fun hn=> ?_⟩;obtain ⟨g,o,eA,hgl,hXg,hc⟩:=h3 hn;have hpos:0< xs.length:=List.length_pos_iff.2 hn;obtain ⟨cs0,hr0,hc0⟩:=hc 0 hpos;have hl0:=E.len hr0;have hne:some g≠row:=Vq (hc0 0 _ (List.getElem?_eq_getElem (by rw [hl0];exact E.pos))) hr;refine ⟨g,o,eA,Nat.lt_of_lt_of_le hgl hg.size,hXg,fun i hi=> ?_⟩;obtain ⟨cs,hrp,hcell⟩:=hc i hi;exact ⟨cs,E.keepc hrp hg hr,fun j u hu=>by rw [World.cell?_of_block (w:=w) (hg.block g hgl hne)];exact hcell j u hu⟩
theorem Sl.kept(h:Sl E X w v xs)(hg:w.grownBy w' none):Sl E X w' v xs:=h.keep hg (by simp)
theorem Sl.more(h:Sl E X w v xs)(hX: ∀g,g< w.heap.size→X g→Y g):Sl E Y w v xs:=by
 obtain ⟨A,c,e,h1,h2,h3⟩:=h;refine ⟨A,c,e,h1,h2,fun hn=> ?_⟩;obtain ⟨g,o,eA,hgl,hXg,hc⟩:=h3 hn;refine ⟨g,o,eA,hgl,hX g hgl hXg,fun i hi=> ?_⟩;obtain ⟨cs,hr,hcell⟩:=hc i hi;exact ⟨cs,E.more hr hX,hcell⟩
theorem Sl.form(h:Sl E X w v xs): ∃A c,v= .slice A xs.length c∧xs.length≤c∧c≤9223372036854775807:=by
 obtain ⟨A,c,e,h1,h2,_⟩:=h;exact ⟨A,c,e,h1,h2⟩
theorem Sl.bound(h:Sl E X w v xs):xs.length≤9223372036854775807:=by
 obtain ⟨A,c,e,h1,h2,_⟩:=h;omega
theorem Sl.at(h:Sl E X w v xs){k:Nat}(hk:k< xs.length): ∃g o c cs,v= .slice (some ⟨g,o,none⟩) xs.length c∧g< w.heap.size∧X g∧E.rep X w cs xs[k]∧ ∀j u,cs[j]? =some u→w.cell? ⟨g,o+k*E.size+j,none⟩=some u:=by
 obtain ⟨A,c,e,h1,h2,h3⟩:=h;obtain ⟨g,o,rfl,hgl,hXg,hc⟩:=h3 (by intro h0;rw [h0] at hk;exact absurd hk (by simp));obtain ⟨cs,hr,hcell⟩:=hc k hk;exact ⟨g,o,c,cs,e,hgl,hXg,hr,hcell⟩
end
theorem Sl.atU{X:Nat→Prop}{w:World}{v:Value}{xs:List Int}(h:Sl ze X w v xs){k:Nat}(hk:k< xs.length):
  ∃g o c,v= .slice (some ⟨g,o,none⟩) xs.length c∧g< w.heap.size∧X g∧w.cell? ⟨g,o+k,none⟩=some (.int .u64 xs[k])∧U64 xs[k]:=by
 obtain ⟨g,o,c,cs,e,hg,hX,⟨rfl,hu⟩,hc⟩:=h.at hk;have h0:=hc 0 _ rfl;rw [show ze.size=1 from rfl,Nat.mul_one] at h0;exact ⟨g,o,c,e,hg,hX,h0,hu⟩
theorem Sl.atP{X:Nat→Prop}{w:World}{v:Value}{xs:List (Int×Int)}(h:Sl zq X w v xs){k:Nat}(hk:k< xs.length):
  ∃g o c,v= .slice (some ⟨g,o,none⟩) xs.length c∧g< w.heap.size∧X g∧w.cell? ⟨g,o+k*2,none⟩=some (.int .u64 xs[k].1)∧w.cell? ⟨g,o+k*2+1,none⟩=some (.int .u64 xs[k].2)∧U64 xs[k].1∧U64 xs[k].2:=by
 obtain ⟨g,o,c,cs,e,hg,hX,⟨rfl,hu⟩,hc⟩:=h.at hk;exact ⟨g,o,c,e,hg,hX,hc 0 _ rfl,hc 1 _ rfl,hu⟩
def zh{α:Type}(E:Enc α):Enc (List α) where
 size:=1
 pos:=by decide
 rep:=fun X w cs xs=> ∃v,cs= [v]∧Sl E X w v xs
 len:=fun h=>by obtain ⟨v,rfl,_⟩:=h;rfl
 ones:=fun h u hu=>by
  obtain ⟨v,rfl,A,c,rfl,_⟩:=h;simp at hu;subst hu;rfl
 keep:=fun h hg hX=>by obtain ⟨v,e,h⟩:=h;exact ⟨v,e,h.keep hg hX⟩
 more:=fun h hX=>by obtain ⟨v,e,h⟩:=h;exact ⟨v,e,h.more hX⟩
 keepc:=fun h hg hr=>by obtain ⟨v,e,h⟩:=h;exact ⟨v,e,h.keepc hg hr⟩
theorem Sl.atS{α:Type}{E:Enc α}{X:Nat→Prop}{w:World}{v:Value}{xs:List (List α)}(h:Sl (zh E) X w v xs){k:Nat}(hk:k< xs.length):
  ∃g o c u,v= .slice (some ⟨g,o,none⟩) xs.length c∧g< w.heap.size∧X g∧w.cell? ⟨g,o+k,none⟩=some u∧Sl E X w u xs[k]:=by
 obtain ⟨g,o,c,cs,e,hg,hX,⟨u,rfl,hu⟩,hc⟩:=h.at hk;have h0:=hc 0 _ rfl;rw [show (zh E).size=1 from rfl,Nat.mul_one] at h0;exact ⟨g,o,c,u,e,hg,hX,h0,hu⟩
theorem Vk{css:List (List Value)}{m:Nat}(hl: ∀i (h:i< css.length),css[i].length=m): ∀{i:Nat} (hi:i< css.length) {j:Nat} {u:Value},css[i][j]? =some u→css.flatten[i*m+j]? =some u:=by
 induction css with
 |nil=>intro i hi;exact absurd hi (by simp)
 |cons c css ih=>
  intro i hi j u hu;have hc:c.length=m:=hl 0 (by simp);cases i with
  |zero=>
   simp only [List.getElem_cons_zero] at hu;have hj:j< c.length:=(List.getElem?_eq_some_iff.1 hu).1;rw [List.flatten_cons,Nat.zero_mul,Nat.zero_add,List.getElem?_append_left hj];exact hu
  |succ i=>
   simp only [List.getElem_cons_succ] at hu;have h:=ih (fun i h=>hl (i+1) (by simpa using h)) (by simpa using hi) hu;rw [List.flatten_cons,List.getElem?_append_right (by rw [hc,Nat.add_mul];omega),hc];rw [show (i+1)*m+j - m=i*m+j by rw [Nat.add_mul];omega];exact h
def Acc{α:Type}(E:Enc α)(base:Nat)(e:TypeId)(X:Nat→Prop)(w:World)(v:Value)(xs:List α):Prop:=
 (∀g,v.ownBlock=some g→X g)∧ ∃css:List (List Value),css.length=xs.length∧(∀i (h:i< xs.length) (h':i< css.length),E.rep (fun g=>X g∧some g≠v.ownBlock) w css[i] xs[i])∧w.ownsRow base e E.size v xs.length css.flatten
section
variable {α:Type} {E:Enc α} {base:Nat} {e:TypeId} {X Y:Nat→Prop} {w w':World} {v:Value} {xs:List α}
theorem Acc.nil(E:Enc α)(base:Nat)(e:TypeId)(X:Nat→Prop)(w:World):Acc E base e X w (.slice none 0 0) []:=⟨by simp [Value.ownBlock], [],rfl,fun i h=>absurd h (by simp),World.ownsRow_nil _ _ _ _⟩
theorem Acc.keep(h:Acc E base e X w v xs){row:Option Nat}(hg:w.grownBy w' row)(hX: ∀g,X g→some g≠row):Acc E base e X w' v xs:=by
 obtain ⟨hb,css,h1,h2,h3⟩:=h;refine ⟨hb,css,h1,fun i hi hi'=>E.keep (h2 i hi hi') hg fun g hg=>hX g hg.1,h3.kept hg ?_⟩;rcases hv:v.ownBlock with _|g
 ·exact .inl rfl
 ·exact .inr (hX g (hb g hv))
theorem Acc.keepc(h:Acc E base e X w v xs){row:Option Nat}(hg:w.grownBy w' row)(hr: ∀r,row=some r→ ∃o:Obj,w.heap[r]? =some o∧o.isCells=false):Acc E base e X w' v xs:=by
 obtain ⟨hb,css,h1,h2,h3⟩:=h;refine ⟨hb,css,h1,fun i hi hi'=>E.keepc (h2 i hi hi') hg hr,h3.kept hg ?_⟩;rcases h3.2 with ⟨rfl,_⟩|⟨g,cap,cur,rfl,_,hh,_⟩
 ·exact .inl rfl
 ·refine .inr fun hr'=> ?_
  obtain ⟨ob,ho,hn⟩:=hr g hr'.symm;rw [hh] at ho;injection ho with ho
  subst ho;cases hn
theorem Acc.kept(h:Acc E base e X w v xs)(hg:w.grownBy w' none):Acc E base e X w' v xs:=h.keep hg (by simp)
theorem Acc.more(h:Acc E base e X w v xs)(hX: ∀g,g< w.heap.size→X g→Y g):Acc E base e Y w v xs:=by
 obtain ⟨hb,css,h1,h2,h3⟩:=h;exact ⟨fun g hv=>hX g (h3.lt g hv).2 (hb g hv),css,h1,fun i hi hi'=>E.more (h2 i hi hi') fun g hl hg=>⟨hX g hl hg.1,hg.2⟩,h3⟩
theorem Acc.sl(h:Acc E base e X w v xs):Sl E X w v xs:=by
 obtain ⟨hb,css,h1,h2,h3⟩:=h;have hlen: ∀i (h:i< css.length),css[i].length=E.size:=fun i h=>E.len (h2 i (by omega) h)
 rcases h3.2 with ⟨hv,h0⟩|⟨g,cap,cur,hv,_,hh,hnc,hcm,_,hx⟩
 ·refine ⟨none,0,by rw [hv,h0],by omega,by omega,fun hn=>absurd (List.eq_nil_of_length_eq_zero h0) hn⟩
 ·refine ⟨some ⟨g,0,none⟩,cap,hv,hnc,hcm,fun _=>⟨g,0,rfl,(h3.lt g (by rw [hv];rfl)).2,hb g (by rw [hv];rfl),fun i hi=> ?_⟩⟩;refine ⟨css[i]'(by omega),E.more (h2 i hi (by omega)) fun g _ hg=>hg.1,fun j u hu=> ?_⟩;have hf:=Vk hlen (i:=i) (by omega) hu;rw [Nat.zero_add,cell_of_row w g _ cur e (0,0) hh, ←Array.getElem?_toList];rw [←hx,List.getElem?_take] at hf;split at hf
  ·exact hf
  ·cases hf
theorem Acc.lt(h:Acc E base e X w v xs): ∀g,v.ownBlock=some g→base≤g∧g< w.heap.size:=by
 obtain ⟨_,css,_,_,h3⟩:=h;exact h3.lt
end
theorem gRf{w:World}:w.grownBy w none:=World.grownBy.refl w none
theorem za{p:Prop}(h:p):Hid p:=Lib.hid h
theorem gAl(w:World)(o:Obj)(row:Option Nat):w.grownBy (w.alloc o) row:=World.grownBy_alloc w o row
theorem sAa{α:Type}(l:List α)(i:Nat)(a:α):l.toArray.setIfInBounds i a=(l.set i a).toArray:=List.setIfInBounds_toArray l i a
theorem sAb{α:Type}{x y:α}{l:List α}:List.set (x::l) 0 y=y::l:=List.set_cons_zero
theorem sAc{α:Type}{x y:α}{l:List α}{n:Nat}:List.set (x::l) (n+1) y=x::l.set n y:=List.set_cons_succ
theorem exq{α:Sort _}(a:α): ∃y,y=a:=⟨a,rfl⟩
theorem _root_.Go.RowKit.Hid.z{p:Prop}(h:Go.RowKit.Hid p):p:=h.out
abbrev nLT:= @Nat.le_trans
abbrev gRr:= @World.grownBy.refl
abbrev tSg:= @List.take_succ_eq_append_getElem
abbrev lMM:= @List.mem_map
abbrev nRf:= @Nat.le_refl
abbrev lLm:= @List.length_map
abbrev lGm:= @List.getElem_mem
abbrev lMa:= @List.map_append
abbrev lLt:= @List.length_take
abbrev lLa:= @List.length_append
abbrev iNn:= @Int.natCast_nonneg
abbrev i6n:= @IntWalk.i64_in
abbrev mCm:= @List.mem_cons_of_mem
abbrev nLl:= @Nat.lt_of_lt_of_le
abbrev mMt:= @List.mem_of_mem_take
abbrev mAl:= @List.mem_append_left
abbrev mAr:= @List.mem_append_right
abbrev mAp:= @List.mem_append
abbrev mIg:= @List.mem_iff_getElem
abbrev mSg:= @List.mem_singleton
abbrev mCs:= @List.mem_cons_self
abbrev nLe:= @Nat.le_of_eq
def zM(P:Program)(t e:TypeId)(size bytes:Nat):Prop:=
 0< bytes∧P.underlying t=some (.slice e)∧ ∃i z,P.info? e=some i∧i.zero=some z∧i.size=size∧i.bytes=bytes∧z.cells.size=size
theorem zM.mk'{P:Program}{t e:TypeId}{size bytes:Nat}{z:Value}(hb:0< bytes)(ht:P.underlying t=some (.slice e))(h:(P.info? e).map (fun i=>(i.zero,i.size,i.bytes))=some (some z,size,bytes))(hz:z.cells.size=size):zM P t e size bytes:=by
 obtain ⟨i,hi,h0,h1,h2⟩:=info_parts h;exact ⟨hb,ht,i,z,hi,h0,h1,h2,hz⟩
section
variable {α:Type} {P:Program} {E:Enc α} {base:Nat} {e:TypeId} {X Z:Nat→Prop} {w:World} {v:Value} {xs:List α}
theorem FZ{t ty:TypeId}{size bytes:Nat}(hE:zM P t e size bytes)(j0:0< size){n:Nat}{cs:List Value}(b0:w.ownsRow base e size v n cs)
  (A:Option Addr) (m c:Nat) (a0:List Value) (hl:a0.length=m*size) (h0:A=none→m=0) (hc: ∀ad,A=some ad→ ∀j u,a0[j]? =some u→w.cell? (ad.add j)=some u)
  (h1: ∀u∈a0,u.oneCell'=true) (c0:(n+m)*bytes≤140737488355328) (d0:base≤w.heap.size):
  ∃v' w',(Builtin.append_ #[t,t] ty #[v, .slice A m c]).run P w= .ok v' w'∧w'.ownsRow base e size v' (n+m) (cs++a0)∧w.grownBy w' v.ownBlock∧(v'.ownBlock=v.ownBlock∨v'.ownBlock=some w.heap.size):=by
 obtain ⟨hb,ht,i,z,hi,hz,i0,g0,f0⟩:=hE;have k0:n+m≤maxLen:=by
  have:(n+m)*1≤(n+m)*bytes:=Nat.mul_le_mul_left _ hb
  unfold maxLen;omega
 cases A with
 |none=>
  have hm:=h0 rfl;subst hm;have hn:a0= []:=List.eq_nil_of_length_eq_zero (by simpa using hl);subst hn;refine ⟨v,w, ?_,by simpa using b0,gRr w _, .inl rfl⟩;rcases b0.2 with ⟨rfl,rfl⟩|⟨g,cap,cur,rfl,_,_,hnc,_⟩
  ·simp [Builtin.append_,run_underlying ht,sizeOf,typeInfo,hi,Builtin.lenOf,Builtin.firstCells]
  ·simp [Builtin.append_,run_underlying ht,sizeOf,typeInfo,hi,Builtin.lenOf,Builtin.firstCells,hnc,storeCells]
 |some ad=>
  obtain ⟨v',w',hr,h2,h3,_,h5⟩:=run_append_own_at (P:=P) w base t ty e i z size bytes ht hi hz i0 g0 f0 j0 v n cs b0 ad m c a0 hl (hc ad rfl) h1 k0 c0 d0;exact ⟨v',w',hr,h2,h3,h5⟩
theorem Ka{o:Oper}{a:Act}{K:Act→World→Prop}{Q:Exit→Act→World→Prop}(s x:Operand)(t:TypeId)
  (ho:o.op= .call {callee:= .builtin .append,args:= #[s,x],argTypes:= #[t,t]}) {size bytes:Nat} (hE:zM P t e size bytes) (hsz:0< size) {n:Nat} {cs:List Value} (hs:a.eval s=v) (hown:w.ownsRow base e size v n cs)
  (A:Option Addr) (m c:Nat) (news:List Value) (hx:a.eval x= .slice A m c) (hl:news.length=m*size) (h0:A=none→m=0) (hc: ∀ad,A=some ad→ ∀j u,news[j]? =some u→w.cell? (ad.add j)=some u)
  (h1: ∀u∈news,u.oneCell'=true) (hbytes:(n+m)*bytes≤140737488355328) (hbase:base≤w.heap.size)
  (h: ∀v' w',w'.ownsRow base e size v' (n+m) (cs++news)→w.grownBy w' v.ownBlock→(v'.ownBlock=v.ownBlock∨v'.ownBlock=some w.heap.size)→K (a.put o.dst v') w'):o.wp P a w K Q:=by
 obtain ⟨v',w',hr,h2,h3,h4⟩:=FZ (P:=P) (ty:=o.type) hE hsz hown A m c news hl h0 hc h1 hbytes hbase;unfold Oper.wp execOp;simp only [ho,resolve,invoke,builtin,Sem.run_bind,Sem.run_pure,Result.andThen_ok,List.map_toArray,List.map_cons,List.map_nil,hs,hx,hr];exact h v' w' h2 h3 h4
theorem Acc.app{w':World}{v':Value}(h:Acc E base e X w v xs){ys:List α}{cs2:List (List Value)}(hlen:cs2.length=ys.length)(hx: ∀i (h:i< ys.length) (h':i< cs2.length),E.rep (fun g=>X g∧some g≠v.ownBlock) w cs2[i] ys[i])
  (hown: ∀css,w.ownsRow base e E.size v xs.length css→w'.ownsRow base e E.size v' (xs.length+ys.length) (css++cs2.flatten)) (hg:w.grownBy w' v.ownBlock) (hat:v'.ownBlock=v.ownBlock∨ ∃n,w.heap.size≤n∧v'.ownBlock=some n)
  (hN: ∀g,w.heap.size≤g→X g):Acc E base e X w' v' (xs++ys):=by
 obtain ⟨hb,css,h1,h2,h3⟩:=h;have lift: ∀{cs':List Value} {y:α},E.rep (fun g=>X g∧some g≠v.ownBlock) w cs' y→E.rep (fun g=>X g∧some g≠v'.ownBlock) w' cs' y:=fun hr=>by
  have a1:=E.more (Y:=fun g=>g< w.heap.size∧X g∧some g≠v.ownBlock) hr fun g hl hg=>⟨hl,hg⟩
  have a2:=E.keep a1 hg fun g hg=>hg.2.2
  refine E.more a2 fun g _ hg=>⟨hg.2.1, ?_⟩
  rcases hat with hat|⟨n,hn,hat⟩<;>rw [hat]
  ·exact hg.2.2
  ·intro he;injection he with he
   have:=hg.1
   omega
 refine ⟨fun g hv=> ?_,css++cs2,by simp [h1,hlen],fun i hi hi'=> ?_, ?_⟩
 ·rcases hat with hat|⟨n,hn,hat⟩<;>rw [hat] at hv
  ·exact hb g hv
  ·injection hv with hv;subst hv;exact hN _ hn
 ·refine lift ?_;rcases Nat.lt_or_ge i css.length with hlt|hge
  ·have e1:(css++cs2)[i]=css[i]:=List.getElem_append_left hlt;have e2:(xs++ys)[i]=xs[i]'(by omega):=List.getElem_append_left (by omega);rw [e1,e2];exact h2 i (by omega) hlt
  ·have e1:(css++cs2)[i]=cs2[i - css.length]'(by simp at hi';omega):=List.getElem_append_right hge;have e2:(xs++ys)[i]=ys[i - xs.length]'(by simp at hi;omega):=List.getElem_append_right (by omega);rw [e1,e2];simp only [h1];exact hx _ _ _
 ·have:=hown _ h3
  simpa using this
def Zr(w:World)(v v':Value):Prop:=v'.ownBlock=v.ownBlock∨ ∃n,w.heap.size≤n∧v'.ownBlock=some n
theorem Zr.ne{w:World}{v v':Value}(h:Zr w v v'){g:Nat}(hg:g< w.heap.size)(hne:v.ownBlock≠some g):v'.ownBlock≠some g:=by
 rcases h with h|⟨n,hn,h⟩<;>rw [h]
 ·exact hne
 ·intro he;injection he with he;omega
theorem Rp{size n:Nat}{cs cs':List Value}(h:w.ownsRow base e size v n cs)(k:w.ownsRow base e size v n cs'):cs=cs':=by
 rcases h.2 with ⟨r1,r2⟩|⟨g,cap,cur,r1,_,r3,_,_,_,r7⟩
 ·have l1:=h.1;have l2:=k.1;rw [r2,Nat.zero_mul] at l1 l2;have a1:cs= []:=List.eq_nil_of_length_eq_zero l1;have a2:cs'= []:=List.eq_nil_of_length_eq_zero l2;rw [a1,a2]
 ·rcases k.2 with ⟨q1,_⟩|⟨g',cap',cur',q1,_,q3,_,_,_,q7⟩
  ·rw [r1] at q1;cases q1
  ·rw [r1] at q1;injection q1 with q1 _ _
   injection q1 with q1
   injection q1 with q1
   subst q1;rw [r3] at q3;injection q3 with q3
   injection q3 with q3
   subst q3;rw [←q7, ←r7]
theorem Xw{cs:List Value}{y:α}{t:TypeId}{bytes:Nat}(hE:zM P t e E.size bytes)(c0:Acc E base e X w v xs)(a0:E.rep (fun g=>X g∧some g≠v.ownBlock) w cs y)
  (f0:(xs.length+1)*bytes≤140737488355328) (hb:base≤w.heap.size) (hN: ∀g,w.heap.size≤g→X g)
  {o:Oper} {a:Act} {K:Act→World→Prop} {Q:Exit→Act→World→Prop} (s x:Operand)
  (ho:o.op= .call {callee:= .builtin .append,args:= #[s,x],argTypes:= #[t,t]}) (hs:a.eval s=v) (hx:a.eval x= .slice (some ⟨w.heap.size,0,none⟩) 1 1)
  (h: ∀v' w',Acc E base e X w' v' (xs++ [y])→w.grownBy w' v.ownBlock→Zr w v v'→K (a.put o.dst v') w'):o.wp P a (w.alloc (.cells cs.toArray e)) K Q:=by
 obtain ⟨_,n0,h1,_,h3⟩:=id c0;have j0:=E.len a0;have l0:Bk (w.alloc (.cells cs.toArray e)) w.heap.size e cs.toArray:=Bk.new w _ _;have i0:w.grownBy (w.alloc (.cells cs.toArray e)) v.ownBlock:=gAl w _ _;refine Ka s x t ho (size:=E.size) hE E.pos hs (h3.alloc _) (some ⟨w.heap.size,0,none⟩) 1 1 cs hx (by rw [j0,Nat.one_mul]) (by simp) ?_ (E.ones a0) f0 (by simp;omega) ?_
 ·intro ad e' j u hu;injection e' with e'
  subst e'
  have:=l0.cell j
  rw [List.getElem?_toArray,hu] at this;rw [←this];unfold Addr.add;split
  ·rename_i h0
   have:j=0:=by simpa using h0
   subst this;rfl
  ·simp
 ·intro v' w' d0 hg m0;have g0:=i0.trans hg;have b0:Zr w v v':=m0.imp id fun e=>⟨_,by simp,e⟩
  refine h v' w' (c0.app (cs2:= [cs]) (ys:= [y]) rfl (fun i hi o0=> ?_) (fun css' k0=> ?_) g0 b0 hN) g0 b0
  ·have:i=0:=by simp at hi;omega
   subst this;exact a0
  ·have e1:css'=n0.flatten:=Rp k0 h3;rw [e1];simpa using d0
theorem zW{cs:List Value}{y:α}{t:TypeId}{bytes:Nat}{ops:Array Oper}{rest:List Oper}{o:Oper}{a:Act}{Q:Exit→Act→World→Prop}(hgd:o.guard=none)(s x:Operand)
  (ho:o.op= .call {callee:= .builtin .append,args:= #[s,x],argTypes:= #[t,t]}) (hE:zM P t e E.size bytes) (hacc:Acc E base e X w v xs) (hs:a.eval s=v) (hx:a.eval x= .slice (some ⟨w.heap.size,0,none⟩) 1 1) (hrep:E.rep (fun g=>X g∧some g≠v.ownBlock) w cs y)
  (hlen:(xs.length+1)*bytes≤140737488355328) (hb:base≤w.heap.size) (hN: ∀g,w.heap.size≤g→X g)
  (h: ∀v' w',Acc E base e X w' v' (xs++ [y])→w.grownBy w' v.ownBlock→Zr w v v'→wpList P ops Q rest (a.put o.dst v') w'):wpList P ops Q (o::rest) a (w.alloc (.cells cs.toArray e)):=
 wpList_plain hgd fun _ hK=>Xw hE hacc hrep hlen hb hN s x ho hs hx fun v' w' h1 h2 h3=>hK _ _ (h v' w' h1 h2 h3)
theorem xr{cs:List Value}{y:α}{t:TypeId}{bytes:Nat}{ops:Array Oper}{o:Oper}{a:Act}{K:Act→World→Prop}{Q:Exit→Act→World→Prop}{F:Prop}(hgd:o.guard=none)(s x:Operand)
  (ho:o.op= .call {callee:= .builtin .append,args:= #[s,x],argTypes:= #[t,t]}) (hE:zM P t e E.size bytes) (hacc:Acc E base e X w v xs) (hs:a.eval s=v) (hx:a.eval x= .slice (some ⟨w.heap.size,0,none⟩) 1 1) (hrep:E.rep (fun g=>X g∧some g≠v.ownBlock) w cs y)
  (hlen:(xs.length+1)*bytes≤140737488355328) (hb:base≤w.heap.size) (hN: ∀g,w.heap.size≤g→X g)
  (h: ∀v' w',Acc E base e X w' v' (xs++ [y])→w.grownBy w' v.ownBlock→Zr w v v'→K (a.put o.dst v') w'):if Region.wanted o (yielded ops a.tmps)=true then Oper.wp P o a (w.alloc (.cells cs.toArray e)) K Q else F:=by
 have hw:Region.wanted o (yielded ops a.tmps)=true:=by simp [Region.wanted,hgd]
 rw [if_pos hw];exact Xw hE hacc hrep hlen hb hN s x ho hs hx h
theorem PM{ys:List α}{A:Option Addr}{m c:Nat}{t:TypeId}{bytes:Nat}(hE:zM P t e E.size bytes)(i0:Acc E base e X w v xs)(q0:Sl E Z w (.slice A m c) ys)(hZ: ∀cs y,E.rep Z w cs y→E.rep (fun g=>X g∧some g≠v.ownBlock) w cs y)
  (k0:(xs.length+ys.length)*bytes≤140737488355328) (hb:base≤w.heap.size) (hN: ∀g,w.heap.size≤g→X g)
  {o:Oper} {a:Act} {K:Act→World→Prop} {Q:Exit→Act→World→Prop} (s x:Operand)
  (ho:o.op= .call {callee:= .builtin .append,args:= #[s,x],argTypes:= #[t,t]}) (hs:a.eval s=v) (hx:a.eval x= .slice A m c)
  (h: ∀v' w',Acc E base e X w' v' (xs++ys)→w.grownBy w' v.ownBlock→Zr w v v'→K (a.put o.dst v') w'):o.wp P a w K Q:=by
 obtain ⟨_,A0,h1,_,h3⟩:=id i0;obtain ⟨A',c',e',z0,y0,hc⟩:=q0;injection e' with e1 e2 e3
 subst e1 e2 e3;have n0: ∀i, ∃cs, ∀(hi:i< ys.length),E.rep Z w cs ys[i]∧ ∀g o,A=some ⟨g,o,none⟩→ ∀j u,cs[j]? =some u→w.cell? ⟨g,o+i*E.size+j,none⟩=some u:=by
  intro i;by_cases hi:i< ys.length
  ·obtain ⟨g,o,eA,_,_,t0⟩:=hc (by intro h0;rw [h0] at hi;exact absurd hi (by simp));obtain ⟨cs,hr,a0⟩:=t0 i hi;refine ⟨cs,fun _=>⟨hr,fun g' o' eA'=> ?_⟩⟩;rw [eA] at eA';injection eA' with eA'
   injection eA' with e1 e2
   subst e1 e2;exact a0
  ·exact ⟨[],fun h=>absurd h hi⟩
 obtain ⟨f,hf⟩: ∃f:Nat→List Value, ∀i (hi:i< ys.length),E.rep Z w (f i) ys[i]∧ ∀g o,A=some ⟨g,o,none⟩→ ∀j u,(f i)[j]? =some u→w.cell? ⟨g,o+i*E.size+j,none⟩=some u:=
  ⟨fun i=>Classical.choose (n0 i),fun i=>Classical.choose_spec (n0 i)⟩
 have m0:((List.range ys.length).map f).length=ys.length:=by simp
 have c0: ∀i (hi:i< ((List.range ys.length).map f).length),((List.range ys.length).map f)[i]=f i:=fun i hi=>by simp
 have b0: ∀i (hi:i< ((List.range ys.length).map f).length),((List.range ys.length).map f)[i].length=E.size:=fun i hi=>by
  rw [c0];exact E.len (hf i (by simpa using hi)).1
 have p0:((List.range ys.length).map f).flatten.length=ys.length*E.size:=by
  rw [List.length_flatten]
  have:((List.range ys.length).map f).map List.length=List.replicate ys.length E.size:=by
   apply List.ext_getElem
   ·simp
   ·intro i hi s0
    have:=b0 i (by simpa using hi)
    simp at this ⊢;exact this
  rw [this];simp
 refine Ka s x t ho (size:=E.size) hE E.pos hs h3 A ys.length c ((List.range ys.length).map f).flatten hx p0 ?_ ?_ ?_ k0 hb ?_
 ·intro hA;rcases Nat.eq_zero_or_pos ys.length with h0|h0
  ·exact h0
  ·obtain ⟨g,o,eA,_⟩:=hc (by intro h;rw [h] at h0;simp at h0);rw [hA] at eA;cases eA
 ·intro ad hA j u hu;have hj:j< ys.length*E.size:=by rw [←p0];exact (List.getElem?_eq_some_iff.1 hu).1
  have d0:0< ys.length:=by
   rcases Nat.eq_zero_or_pos ys.length with h0|h0
   ·rw [h0] at hj;omega
   ·exact h0
  obtain ⟨g,o,eA,_⟩:=hc (by intro h;rw [h] at d0;simp at d0);have hi:j / E.size< ys.length:=Nat.div_lt_of_lt_mul (by rw [Nat.mul_comm];exact hj);have hr:j%E.size< E.size:=Nat.mod_lt _ E.pos;have l0:=hf _ hi;have o0:(f (j / E.size))[j%E.size]? =some ((f (j / E.size))[j%E.size]'(by rw [E.len l0.1];exact hr)):=List.getElem?_eq_getElem _;have f0:=Vk b0 (i:=j / E.size) (by simpa using hi) (j:=j%E.size) (u:=(f (j / E.size))[j%E.size]'(by rw [E.len l0.1];exact hr)) (by rw [c0];exact o0);rw [show j / E.size*E.size+j%E.size=j by rw [Nat.mul_comm];exact Nat.div_add_mod j E.size] at f0;rw [hu] at f0;injection f0 with f0
  have a0:=l0.2 g o eA (j%E.size) _ o0;rw [show o+j / E.size*E.size+j%E.size=o+j by have:=Nat.div_add_mod j E.size;rw [Nat.mul_comm] at this;omega] at a0;rw [hA] at eA;injection eA with eA
  subst eA;rw [f0, ←a0];unfold Addr.add;split
  ·rename_i h0
   have:j=0:=by simpa using h0
   subst this;rfl
  ·rfl
 ·intro u hu;obtain ⟨l,hl,r0⟩:=List.mem_flatten.1 hu;obtain ⟨i,hi,rfl⟩:=List.mem_map.1 hl;exact E.ones (hf i (by simpa using hi)).1 u r0
 ·intro v' w' j0 hg v0;have g0:Zr w v v':=v0.imp id fun e=>⟨_,nRf _,e⟩
  refine h v' w' (i0.app m0 (fun i hi s0=> ?_) (fun css' u0=> ?_) hg g0 hN) hg g0
  ·rw [c0];exact hZ _ _ (hf i hi).1
  ·rw [Rp u0 h3];exact j0
theorem xF{ys:List α}{A:Option Addr}{m c:Nat}{t:TypeId}{bytes:Nat}{ops:Array Oper}{rest:List Oper}{o:Oper}{a:Act}{Q:Exit→Act→World→Prop}(hgd:o.guard=none)(s x:Operand)
  (ho:o.op= .call {callee:= .builtin .append,args:= #[s,x],argTypes:= #[t,t]}) (hE:zM P t e E.size bytes) (hacc:Acc E base e X w v xs) (hs:a.eval s=v) (hx:a.eval x= .slice A m c) (hys:Sl E Z w (.slice A m c) ys) (hZ: ∀cs y,E.rep Z w cs y→E.rep (fun g=>X g∧some g≠v.ownBlock) w cs y)
  (hlen:(xs.length+ys.length)*bytes≤140737488355328) (hb:base≤w.heap.size) (hN: ∀g,w.heap.size≤g→X g)
  (h: ∀v' w',Acc E base e X w' v' (xs++ys)→w.grownBy w' v.ownBlock→Zr w v v'→wpList P ops Q rest (a.put o.dst v') w'):wpList P ops Q (o::rest) a w:=
 wpList_plain hgd fun _ hK=>PM hE hacc hys hZ hlen hb hN s x ho hs hx fun v' w' h1 h2 h3=>hK _ _ (h v' w' h1 h2 h3)
theorem Acc.made(E:Enc α)(w:World)(e:TypeId){B:Nat}(hB:B≤w.heap.size)(X:Nat→Prop)(hX:X w.heap.size):Acc E B e X (w.alloc (.cells #[] e)) (.slice (some ⟨w.heap.size,0,none⟩) 0 0) []:=
 ⟨fun g hg=>by simp [Value.ownBlock] at hg;subst hg;exact hX, [],rfl,fun i hi=>absurd hi (by simp),World.ownsRow_made w #[] 0 hB (Nat.zero_le _) (by simp)⟩
theorem Acc.ne_bk(h:Acc E base e X w v xs){g:Nat}{t:TypeId}{cs:Array Value}(hb:Bk w g t cs)(hne:e≠t):v.ownBlock≠some g:=by
 obtain ⟨_,css,_,_,h3⟩:=h;rcases h3.2 with ⟨rfl,_⟩|⟨g',cap,cur,rfl,_,hh,_⟩
 ·simp [Value.ownBlock]
 ·intro he
  have:g'=g:=by simpa [Value.ownBlock] using he
  subst this;unfold Bk at hb;rw [hb] at hh;injection hh with hh
  injection hh with _ ht
  exact hne ht.symm
end
section
variable {α:Type} {E:Enc α} {X Y:Nat→Prop} {w w':World} {v:Value} {xs:List α}
theorem Sl.take{A:Option Addr}{n c:Nat}(h:Sl E X w (.slice A n c) xs)(k:Nat)(hk:k≤xs.length):Sl E X w (.slice A k c) (xs.take k):=by
 obtain ⟨A',c',e,h1,h2,h3⟩:=h;injection e with e1 e2 e3
 subst e1 e2 e3;refine ⟨A,c,by rw [lLt,Nat.min_eq_left hk],by rw [lLt];omega,h2,fun hn=> ?_⟩;obtain ⟨g,o,eA,hg,hX,hc⟩:=h3 (by intro h0;rw [h0] at hn;simp at hn);refine ⟨g,o,eA,hg,hX,fun i hi=> ?_⟩;obtain ⟨cs,hr,hcell⟩:=hc i (by rw [lLt] at hi;omega);exact ⟨cs,by rw [List.getElem_take];exact hr,hcell⟩
theorem Sl.drop{g o n c:Nat}(h:Sl E X w (.slice (some ⟨g,o,none⟩) n c) xs)(k:Nat)(hk:k≤xs.length):Sl E X w (.slice (some ⟨g,o+k*E.size,none⟩) (n - k) (c - k)) (xs.drop k):=by
 obtain ⟨A',c',e,h1,h2,h3⟩:=h;injection e with e1 e2 e3
 subst e1 e2 e3;refine ⟨_,_,by rw [List.length_drop],by rw [List.length_drop];omega,by omega,fun hn=> ?_⟩;obtain ⟨g',o',eA,hg,hX,hc⟩:=h3 (by intro h0;rw [h0] at hn;simp at hn);injection eA with eA
 injection eA with eg eo
 subst eg eo;refine ⟨g,_,rfl,hg,hX,fun i hi=> ?_⟩;obtain ⟨cs,hr,hcell⟩:=hc (k+i) (by rw [List.length_drop] at hi;omega);refine ⟨cs,by rw [List.getElem_drop];exact hr,fun j u hu=> ?_⟩
 have:=hcell j u hu
 rwa [show o+(k+i)*E.size+j=o+k*E.size+i*E.size+j by rw [Nat.add_mul];omega] at this
theorem Sl.empty(E:Enc α)(X:Nat→Prop)(w:World)(A:Option Addr)(c:Nat)(hc:c≤9223372036854775807):Sl E X w (.slice A 0 c) []:=⟨A,c,rfl,Nat.zero_le _,hc,fun h=>absurd rfl h⟩
theorem Sl.bounded(h:Sl E X w v xs):Sl E (fun g=>X g∧g< w.heap.size) w v xs:=h.more fun _ hg hX=>⟨hX,hg⟩
theorem Sl.addr{A:Option Addr}{n c:Nat}(h:Sl E X w (.slice A n c) xs)(hn:0< xs.length): ∃g o,A=some ⟨g,o,none⟩∧g< w.heap.size∧X g:=by
 obtain ⟨A',c',e,h1,h2,h3⟩:=h;injection e with e1 e2 e3
 subst e1 e2 e3;obtain ⟨g,o,eA,hg,hX,_⟩:=h3 (by intro h0;rw [h0] at hn;simp at hn);exact ⟨g,o,eA,hg,hX⟩
def Wr(X:Nat→Prop)(w:World)(v:Value):Prop:= ∃g o n c,v= .slice (some ⟨g,o,none⟩) n c∧g< w.heap.size∧X g∧(∀i,w.frozen? ⟨g,i,none⟩=false)∧ ∃ob:Obj,w.heap[g]? =some ob∧ob.isCells=true
theorem Yy{g i:Nat}(h:w'.heap[g]? =w.heap[g]?):w'.frozen? ⟨g,i,none⟩=w.frozen? ⟨g,i,none⟩:=by simp [World.frozen?,h]
theorem Wr.keep(h:Wr X w v){row:Option Nat}(hg:w.grownBy w' row)(hX: ∀g,X g→some g≠row):Wr X w' v:=by
 obtain ⟨g,o,n,c,e,hl,hXg,hf,ob,ho,hn⟩:=h;exact ⟨g,o,n,c,e,nLl hl hg.size,hXg,fun i=>(Yy (hg.block g hl (hX g hXg))).trans (hf i),ob,(hg.block g hl (hX g hXg)).trans ho,hn⟩
theorem Wr.more(h:Wr X w v)(hX: ∀g,g< w.heap.size→X g→Y g):Wr Y w v:=by
 obtain ⟨g,o,n,c,e,hl,hXg,hf⟩:=h;exact ⟨g,o,n,c,e,hl,hX g hl hXg,hf⟩
end
theorem Wr.keepc{X:Nat→Prop}{w w':World}{v:Value}(h:Wr X w v){row:Option Nat}(hg:w.grownBy w' row)(hr: ∀r,row=some r→ ∃o:Obj,w.heap[r]? =some o∧o.isCells=false):Wr X w' v:=by
 obtain ⟨g,o,n,c,e,hl,hXg,hf,hcl⟩:=h;have hne:some g≠row:=fun e=>by
  obtain ⟨ob,ho,hn⟩:=hr g e.symm;obtain ⟨ob',ho',hn'⟩:=hcl;rw [ho] at ho';injection ho' with ho'
  rw [ho',hn'] at hn;cases hn
 exact ⟨g,o,n,c,e,nLl hl hg.size,hXg,fun i=>(Yy (hg.block g hl hne)).trans (hf i),by obtain ⟨ob,ho,hn⟩:=hcl;exact ⟨ob,(hg.block g hl hne).trans ho,hn⟩⟩
def xV{α:Type}(E:Enc α):Enc (List α) where
 size:=1
 pos:=by decide
 rep:=fun X w cs xs=> ∃v,cs= [v]∧Sl E X w v xs∧Wr X w v
 len:=fun h=>by obtain ⟨v,rfl,_⟩:=h;rfl
 ones:=fun h u hu=>by
  obtain ⟨v,rfl,⟨A,c,rfl,_⟩,_⟩:=h;simp at hu;subst hu;rfl
 keep:=fun h hg hX=>by obtain ⟨v,e,h,h2⟩:=h;exact ⟨v,e,h.keep hg hX,h2.keep hg hX⟩
 more:=fun h hX=>by obtain ⟨v,e,h,h2⟩:=h;exact ⟨v,e,h.more hX,h2.more hX⟩
 keepc:=fun h hg hr=>by obtain ⟨v,e,h,h2⟩:=h;exact ⟨v,e,h.keepc hg hr,h2.keepc hg hr⟩
section
variable {α:Type} {E:Enc α} {X Y:Nat→Prop} {w w':World} {v:Value} {xs:List α}
theorem Acc.wr{base:Nat}{e:TypeId}(h:Acc E base e X w v xs)(hn:0< xs.length):Wr X w v:=by
 have hlt:=h.lt;obtain ⟨hb,css,h1,h2,h3⟩:=h;rcases h3.2 with ⟨hv,h0⟩|⟨g,cap,cur,hv,_,hh,_⟩
 ·omega
 ·refine ⟨g,0,xs.length,cap,hv,(hlt g (by rw [hv];rfl)).2,hb g (by rw [hv];rfl),fun i=> ?_,_,hh,rfl⟩;simp [World.frozen?,hh]
theorem Sl.plain{X:Nat→Prop}{w:World}{v:Value}{xs:List (List α)}(h:Sl (xV E) X w v xs):Sl (zh E) X w v xs:=by
 obtain ⟨A,c,e,h1,h2,h3⟩:=h;refine ⟨A,c,e,h1,h2,fun hn=> ?_⟩;obtain ⟨g,o,eA,hg,hX,hc⟩:=h3 hn;refine ⟨g,o,eA,hg,hX,fun i hi=> ?_⟩;obtain ⟨cs,⟨v,e,hs,_⟩,hcell⟩:=hc i hi;exact ⟨cs,⟨v,e,hs⟩,hcell⟩
theorem Sl.via{F:Enc α}(hs:E.size=F.size)(hv: ∀cs y,E.rep X w cs y→F.rep X w cs y)(h:Sl E X w v xs):Sl F X w v xs:=by
 obtain ⟨A,c,e,h1,h2,h3⟩:=h;refine ⟨A,c,e,h1,h2,fun hn=> ?_⟩;obtain ⟨g,o,eA,hg,hX,hc⟩:=h3 hn;refine ⟨g,o,eA,hg,hX,fun i hi=> ?_⟩;obtain ⟨cs,hr,hcell⟩:=hc i hi;exact ⟨cs,hv _ _ hr,by rw [←hs];exact hcell⟩
theorem Sl.plain2{X:Nat→Prop}{w:World}{v:Value}{xs:List (List (List α))}(h:Sl (xV (xV E)) X w v xs):Sl (zh (zh E)) X w v xs:=
 Sl.via (E:=zh (xV E)) rfl (fun _ _ ⟨v,e,hs⟩=>⟨v,e,hs.plain⟩) h.plain
end
theorem Sl.block{α:Type}{E:Enc α}{X:Nat→Prop}{w:World}{g c:Nat}{t:TypeId}{cs:Array Value}{xs:List α}(h:Bk w g t cs)(hX:X g)(css:List (List Value))(hl:css.length=xs.length)
  (hr: ∀i (hi:i< xs.length) (hi':i< css.length),E.rep X w css[i] xs[i]) (hc:cs.toList=css.flatten) (hn:xs.length≤c) (hc2:c≤9223372036854775807):Sl E X w (.slice (some ⟨g,0,none⟩) xs.length c) xs:=by
 refine ⟨_,c,rfl,hn,hc2,fun _=>⟨g,0,rfl,h.lt,hX,fun i hi=>⟨css[i]'(by omega),hr i hi (by omega),fun j u hu=> ?_⟩⟩⟩;have hf:=Vk (m:=E.size) (fun i hi=>E.len (hr i (by omega) hi)) (i:=i) (by omega) hu;rw [Nat.zero_add,h.cell, ←Array.getElem?_toList,hc];exact hf
theorem Sl.nils{α:Type}(E:Enc α)(X:Nat→Prop){w:World}{g n:Nat}{t:TypeId}(h:Bk w g t (madeCells #[.slice none 0 0] n))(hX:X g)(hn:n≤9223372036854775807):Sl (zh E) X w (.slice (some ⟨g,0,none⟩) n n) (List.replicate n []):=by
 have:=Sl.block (E:=zh E) (xs:=List.replicate n ([]:List α)) (c:=n) h hX (List.replicate n [.slice none 0 0]) (by simp) (fun i hi hi'=>⟨_,by simp;rfl,by simp;exact Sl.nil E X w⟩) (by rw [toList_madeCells_one];simp) (by simp) hn
 simpa using this
theorem xm{w w':World}{row:Option Nat}(h:w.grownBy w' none):w.grownBy w' row:=⟨h.os,h.tape,h.output,h.size,fun k hk _=>h.block k hk (by simp)⟩
section
variable {α:Type} {P:Program} {E:Enc α} {base:Nat} {e:TypeId} {X Y Z:Nat→Prop} {w w0:World} {v:Value} {xs:List α}
theorem Ty{cs:List Value}{y:α}{t:TypeId}{bytes:Nat}(hE:zM P t e E.size bytes)(hG:w0.grownBy w none)(hacc:Acc E w0.heap.size e Y w v xs)(hY: ∀g,w0.heap.size≤g→Y g)(hrep:E.rep (fun g=>Y g∧some g≠v.ownBlock) w cs y)
  (hlen:(xs.length+1)*bytes≤140737488355328)
  {o:Oper} {a:Act} {K:Act→World→Prop} {Q:Exit→Act→World→Prop} (s x:Operand)
  (ho:o.op= .call {callee:= .builtin .append,args:= #[s,x],argTypes:= #[t,t]}) (hs:a.eval s=v) (hx:a.eval x= .slice (some ⟨w.heap.size,0,none⟩) 1 1)
  (h: ∀v' w',Acc E w0.heap.size e Y w' v' (xs++ [y])→w0.grownBy w' none→w.grownBy w' v.ownBlock→K (a.put o.dst v') w'):o.wp P a (w.alloc (.cells cs.toArray e)) K Q:=
 Xw hE hacc hrep hlen hG.size (fun g hg=>hY g (nLT hG.size hg)) s x ho hs hx fun v' w' h1 h2 _=>h v' w' h1 (zP hG h2 fun g he=>(hacc.lt g he).1) h2
theorem zF{cs:List Value}{y:α}{t:TypeId}{bytes:Nat}{ops:Array Oper}{rest:List Oper}{o:Oper}{a:Act}{Q:Exit→Act→World→Prop}(hgd:o.guard=none)(s x:Operand)
  (ho:o.op= .call {callee:= .builtin .append,args:= #[s,x],argTypes:= #[t,t]}) (hE:zM P t e E.size bytes) (hG:w0.grownBy w none) (hacc:Acc E w0.heap.size e Y w v xs) (hY: ∀g,w0.heap.size≤g→Y g) (hrep:E.rep (fun g=>Y g∧some g≠v.ownBlock) w cs y)
  (hlen:(xs.length+1)*bytes≤140737488355328) (hs:a.eval s=v) (hx:a.eval x= .slice (some ⟨w.heap.size,0,none⟩) 1 1)
  (h: ∀v' w',Acc E w0.heap.size e Y w' v' (xs++ [y])→w0.grownBy w' none→w.grownBy w' v.ownBlock→wpList P ops Q rest (a.put o.dst v') w'):wpList P ops Q (o::rest) a (w.alloc (.cells cs.toArray e)):=
 wpList_plain hgd fun _ hK=>Ty hE hG hacc hY hrep hlen s x ho hs hx fun v' w' h1 h2 h3=>hK _ _ (h v' w' h1 h2 h3)
theorem Mx{cs:List Value}{y:α}{t:TypeId}{bytes:Nat}{ops:Array Oper}{o:Oper}{a:Act}{K:Act→World→Prop}{Q:Exit→Act→World→Prop}{F:Prop}(hgd:o.guard=none)(s x:Operand)
  (ho:o.op= .call {callee:= .builtin .append,args:= #[s,x],argTypes:= #[t,t]}) (hE:zM P t e E.size bytes) (hG:w0.grownBy w none) (hacc:Acc E w0.heap.size e Y w v xs) (hY: ∀g,w0.heap.size≤g→Y g) (hrep:E.rep (fun g=>Y g∧some g≠v.ownBlock) w cs y)
  (hlen:(xs.length+1)*bytes≤140737488355328) (hs:a.eval s=v) (hx:a.eval x= .slice (some ⟨w.heap.size,0,none⟩) 1 1)
  (h: ∀v' w',Acc E w0.heap.size e Y w' v' (xs++ [y])→w0.grownBy w' none→w.grownBy w' v.ownBlock→K (a.put o.dst v') w'):if Region.wanted o (yielded ops a.tmps)=true then Oper.wp P o a (w.alloc (.cells cs.toArray e)) K Q else F:=by
 have hw:Region.wanted o (yielded ops a.tmps)=true:=by simp [Region.wanted,hgd]
 rw [if_pos hw];exact Ty hE hG hacc hY hrep hlen s x ho hs hx h
end
def chk{α:Type}(n:Nat)(l:List α)(k:Nat):List (List α):=(List.range k).map fun j=>(l.drop (j*n)).take n
theorem RN{α:Type}(n:Nat)(l:List α)(k:Nat):chk n l (k+1)=chk n l k++ [(l.drop (k*n)).take n]:=by
 unfold chk;rw [List.range_succ,lMa];rfl
theorem zI{α:Type}(n:Nat)(l:List α)(k:Nat):(chk n l k).length=k:=by simp [chk]
def Cj{α:Type}(E:Enc α)(Y:Nat→Prop)(w:World)(xs:List α)(n:Int)(e:Ending)(w':World):Prop:= ∃v,e= .returned (.tuple #[v, .int .i64 n])∧Sl E Y w' v xs∧w.grownBy w' none
def zN{α:Type}(E:Enc α)(Y:Nat→Prop)(w:World)(xs:List α)(e:Ending)(w':World):Prop:= ∃v,e= .returned v∧Sl E Y w' v xs∧w.grownBy w' none
theorem RF:(Tryz.prog.info? 22).map (fun i=>(i.zero,i.size,i.bytes))=some (some (.int .u64 0),1,8):=by kernel_rfl
theorem XE:(Tryz.prog.info? 31).map (fun i=>(i.zero,i.size,i.bytes))=some (some (.slice none 0 0),1,24):=by kernel_rfl
theorem Jy:(Tryz.prog.info? 43).map (fun i=>(i.zero,i.size,i.bytes))=some (some (.slice none 0 0),1,24):=by kernel_rfl
theorem QV:(Tryz.prog.info? 153).map (fun i=>(i.zero,i.size,i.bytes))=some (some (.agg #[.int .u64 0, .int .u64 0]),2,16):=by kernel_rfl
theorem YG:(Tryz.prog.info? 72).map (fun i=>(i.zero,i.size,i.bytes))=some (some (.slice none 0 0),1,24):=by kernel_rfl
theorem xD:zM prog 31 22 1 8:=zM.mk' (by decide) Tryz.underlying31 RF rfl
theorem Zo:zM prog 43 31 1 24:=zM.mk' (by decide) Tryz.underlying43 XE rfl
theorem Xc:zM prog 104 43 1 24:=zM.mk' (by decide) Tryz.underlying104 Jy rfl
theorem Xd:zM prog 72 153 2 16:=zM.mk' (by decide) Tryz.underlying72 QV rfl
theorem YJ:zM prog 103 72 1 24:=zM.mk' (by decide) Tryz.underlying103 YG rfl
end
section
open Go.RowKit
theorem QR:(Lib.len8tab.size:Int)=256:=by
 have:Lib.len8tab.size=256:=by decide
 omega
theorem Zw(k a b:Nat)(hk:k≤56)(ha:a≤8)(hb:b=k+a):wrap64 ((k:Int)+wrap64 (a:Int))=(b:Int):=by
 unfold wrap64;omega
theorem LY(a:Nat)(ha:a≤8):wrap64 (wrap64 (a:Int))=(a:Int):=by
 unfold wrap64;omega
theorem ZA(y:Int)(h:y.toNat< Lib.len8tab.size):((Lib.len8tab[y.toNat]'h).toNat:Int)=Lib.len8 y:=by
 unfold Lib.len8;rw [getElem?_pos Lib.len8tab y.toNat h];rfl
set_option maxRecDepth 1000000 in
theorem Jp(x:Int)(w:World)(h0:0≤x)(h1:x≤18446744073709551615):
  Calls prog 239 #[.int .u64 x] w fun e w'=>e= .returned (.int .i64 (Lib.bitLen x.toNat))∧w'=w:=by
 go_enter func239,ntmps239;go_wp2
 all_goals first
  |(go_ret;refine ⟨congrArg Ending.returned (congrArg (Value.int IntKind.i64) ?_),rfl⟩;go_light)
  |(exfalso
    go_light;have hs:=QR;omega)
 all_goals first
  |(rw [ZA (x / 4294967296 / 65536 / 256) _,Lib.len8_of (x / 4294967296 / 65536 / 256) (by omega) (by omega)]
    have e:(x / 4294967296 / 65536 / 256).toNat=x.toNat / 72057594037927936:=by omega
    have l:=Lib.bitLen_le8' (x / 4294967296 / 65536 / 256) (by omega) (by omega);have s:=Lib.bitLen_shift56 x.toNat (by omega) (by omega);rw [e] at l ⊢;exact Zw 56 _ _ (by decide) l s)
  |(rw [ZA (x / 4294967296 / 65536) _,Lib.len8_of (x / 4294967296 / 65536) (by omega) (by omega)]
    have e:(x / 4294967296 / 65536).toNat=x.toNat / 281474976710656:=by omega
    have l:=Lib.bitLen_le8' (x / 4294967296 / 65536) (by omega) (by omega);have s:=Lib.bitLen_shift48 x.toNat (by omega) (by omega);rw [e] at l ⊢;exact Zw 48 _ _ (by decide) l s)
  |(rw [ZA (x / 4294967296 / 256) _,Lib.len8_of (x / 4294967296 / 256) (by omega) (by omega)]
    have e:(x / 4294967296 / 256).toNat=x.toNat / 1099511627776:=by omega
    have l:=Lib.bitLen_le8' (x / 4294967296 / 256) (by omega) (by omega);have s:=Lib.bitLen_shift40 x.toNat (by omega) (by omega);rw [e] at l ⊢;exact Zw 40 _ _ (by decide) l s)
  |(rw [ZA (x / 4294967296) _,Lib.len8_of (x / 4294967296) (by omega) (by omega)]
    have e:(x / 4294967296).toNat=x.toNat / 4294967296:=by omega
    have l:=Lib.bitLen_le8' (x / 4294967296) (by omega) (by omega);have s:=Lib.bitLen_shift32 x.toNat (by omega) (by omega);rw [e] at l ⊢;exact Zw 32 _ _ (by decide) l s)
  |(rw [ZA (x / 65536 / 256) _,Lib.len8_of (x / 65536 / 256) (by omega) (by omega)]
    have e:(x / 65536 / 256).toNat=x.toNat / 16777216:=by omega
    have l:=Lib.bitLen_le8' (x / 65536 / 256) (by omega) (by omega);have s:=Lib.bitLen_shift24 x.toNat (by omega) (by omega);rw [e] at l ⊢;exact Zw 24 _ _ (by decide) l s)
  |(rw [ZA (x / 65536) _,Lib.len8_of (x / 65536) (by omega) (by omega)]
    have e:(x / 65536).toNat=x.toNat / 65536:=by omega
    have l:=Lib.bitLen_le8' (x / 65536) (by omega) (by omega);have s:=Lib.bitLen_shift16 x.toNat (by omega) (by omega);rw [e] at l ⊢;exact Zw 16 _ _ (by decide) l s)
  |(rw [ZA (x / 256) _,Lib.len8_of (x / 256) (by omega) (by omega)]
    have e:(x / 256).toNat=x.toNat / 256:=by omega
    have l:=Lib.bitLen_le8' (x / 256) (by omega) (by omega);have s:=Lib.bitLen_shift8 x.toNat (by omega) (by omega);rw [e] at l ⊢;exact Zw 8 _ _ (by decide) l s)
  |(rw [ZA (x) _,Lib.len8_of (x) (by omega) (by omega)]
    have e:(x).toNat=x.toNat:=by omega
    have l:=Lib.bitLen_le8' (x) (by omega) (by omega);rw [e] at l ⊢
    first|exact LY _ l|exact Zw 0 _ _ (by decide) l (by omega)|exact wrap_one _ l)
theorem Gp(x:Int)(w:World)(h0:0≤x)(h1:x≤18446744073709551615)(hb:Lib.bitLen x.toNat≤64):
  Calls prog 222 #[.int .u64 x] w fun e w'=>e= .returned (.int .i64 (64 - (Lib.bitLen x.toNat:Int)))∧w=w':=by
 go_enter func222,ntmps222;go_wp2_with (go_at_call 239;refine (Jp _ _ h0 h1).mono ?_;rintro e w' ⟨rfl,rfl⟩);go_ret;exact ⟨rfl,rfl⟩
theorem JV(lo y:Int)(w:World)(hl:U64 lo)(hy:U64 y)(h0:0< y):
  Calls prog 187 #[.int .u64 0, .int .u64 lo, .int .u64 y] w fun e w'=>e= .returned (.tuple #[.int .u64 (lo / y), .int .u64 (lo%y)])∧ ∃n,w'=w.drewN n:=by
 obtain ⟨l0,l1⟩:=hl;obtain ⟨y0,y1⟩:=hy;have c1:(y==0)=false:=by simp;omega
 have c2:decide (y≤0)=false:=by simp;omega
 go_enter func187,ntmps187;go_wp2;go_quiet (fail);go_wp2;go_ret2;exact ⟨rfl,_,rfl⟩
end
section
namespace DivM
theorem Xe: ∀(k x:Nat),x≠0→x< 2 ^ k→k≤64→2 ^ (Lib.bitLen x)≤2*x∧x< 2 ^ (Lib.bitLen x)
 |0,x,h0,h,_=>by simp at h;omega
 |k+1,x,h0,h,hk=>by
  have h64:x< 2 ^ 64:=Nat.lt_of_lt_of_le h (Nat.pow_le_pow_right (by omega) hk);rw [Lib.bitLen_half x h0 h64];by_cases hx:x / 2=0
  ·have:x=1:=by omega
   subst this;decide
  ·have ih:=Xe k (x / 2) hx (by rw [Nat.pow_succ] at h;omega) (by omega);rw [Nat.pow_add];omega
theorem bitLen_bounds(x:Nat)(h0:x≠0)(h:x< 18446744073709551616):1≤Lib.bitLen x∧Lib.bitLen x≤64:=by
 refine ⟨?_,Lib.bitLen_le x 64 (by omega) h⟩
 have:=(Xe 64 x h0 h (by omega)).2
 by_cases e:Lib.bitLen x=0
 ·rw [e] at this;omega
 ·omega
theorem norm(y:Nat)(h0:y≠0)(h:y< 18446744073709551616):9223372036854775808≤y*2 ^ (64 - Lib.bitLen y)∧y*2 ^ (64 - Lib.bitLen y)< 18446744073709551616:=by
 obtain ⟨b1,b2⟩:=bitLen_bounds y h0 h;obtain ⟨s1,s2⟩:=Xe 64 y h0 h (by omega);have e:2 ^ (Lib.bitLen y)*2 ^ (64 - Lib.bitLen y)=18446744073709551616:=by
  rw [←Nat.pow_add,show Lib.bitLen y+(64 - Lib.bitLen y)=64 by omega]
 have p:0< 2 ^ (64 - Lib.bitLen y):=Nat.two_pow_pos _;constructor
 ·have:=Nat.mul_le_mul_right (2 ^ (64 - Lib.bitLen y)) s1
  rw [e,Nat.mul_assoc] at this;omega
 ·have:=(Nat.mul_lt_mul_right p).2 s2
  rw [e] at this;exact this
theorem Ah(s:Nat)(hs:s≤64):2 ^ s*2 ^ (64 - s)=18446744073709551616:=by
 rw [←Nat.pow_add,show s+(64 - s)=64 by omega]
theorem Jm(lo s:Nat)(hs:s≤64):lo*2 ^ s / 18446744073709551616=lo / 2 ^ (64 - s):=by
 rw [←Ah s hs,Nat.mul_comm lo,Nat.mul_div_mul_left _ _ (Nat.two_pow_pos s)]
theorem Fs(lo s:Nat)(hs:s≤64)(h:lo< 18446744073709551616):lo / 2 ^ (64 - s)< 2 ^ s:=by
 rw [Nat.div_lt_iff_lt_mul (Nat.two_pow_pos _),Ah s hs];exact h
theorem shifted(hi lo s:Nat)(hs:s≤64):(hi*18446744073709551616+lo)*2 ^ s=(hi*2 ^ s+lo / 2 ^ (64 - s))*18446744073709551616+lo*2 ^ s%18446744073709551616:=by
 have e:=Jm lo s hs;have d:=Nat.div_add_mod (lo*2 ^ s) 18446744073709551616;rw [e] at d;rw [Nat.add_mul,Nat.add_mul,Nat.mul_right_comm];omega
theorem high_lt(hi lo y s:Nat)(hs:s≤64)(h:lo< 18446744073709551616)(hy:hi< y):hi*2 ^ s+lo / 2 ^ (64 - s)< y*2 ^ s:=by
 have a:=Fs lo s hs h;have b:=Nat.mul_le_mul_right (2 ^ s) (show hi+1≤y from hy);rw [Nat.add_mul] at b;omega
theorem or_add(hi lo s:Nat)(hs:s≤64)(h:lo< 18446744073709551616):(hi*2 ^ s)|||(lo / 2 ^ (64 - s))=hi*2 ^ s+lo / 2 ^ (64 - s):=by
 rw [Nat.mul_comm hi,Nat.two_pow_add_eq_or_of_lt (Fs lo s hs h)]
structure Est (U u1 y1 y0 q r:Nat):Prop where
 sum:q*y1+r=U
 low:r< 4294967296
 top:q≤4294967297
 over:(U*4294967296+u1) / (y1*4294967296+y0)≤q
theorem Est.start{U u1 y1 y0:Nat}(hy1:2147483648≤y1)(hy1':y1< 4294967296)(hy0:y0< 4294967296)(hu1:u1< 4294967296)(hU:U< y1*4294967296+y0):Est U u1 y1 y0 (U / y1) (U%y1):=by
 have m:=Nat.div_add_mod U y1;have l:=Nat.mod_lt U (show 0< y1 by omega);refine ⟨by rw [Nat.mul_comm];exact m,by omega, ?_, ?_⟩
 ·have:U / y1< 4294967298:=by
   rw [Nat.div_lt_iff_lt_mul (by omega)];omega
  omega
 ·have:(U*4294967296+u1) / (y1*4294967296+y0)< U / y1+1:=by
   rw [Nat.div_lt_iff_lt_mul (by omega),Nat.mul_add, ←Nat.mul_assoc];have c:=Nat.mul_comm y1 (U / y1);have e:(U / y1+1)*y1=U / y1*y1+y1:=by rw [Nat.add_mul,Nat.one_mul]
   rw [e];have z:=Nat.zero_le ((U / y1+1)*y0);omega
  omega
theorem CJ(q y1 y0:Nat):q*(y1*4294967296+y0)=q*y1*4294967296+q*y0:=by rw [Nat.mul_add,Nat.mul_assoc]
theorem Est.done{U u1 y1 y0 q r:Nat}(h:Est U u1 y1 y0 q r)(hp:0< y1)(ht:q*y0≤4294967296*r+u1):q=(U*4294967296+u1) / (y1*4294967296+y0):=by
 apply Nat.le_antisymm _ h.over;rw [Nat.le_div_iff_mul_le (by omega),CJ]
 have:=h.sum
 omega
theorem Est.gt{U u1 y1 y0 q r:Nat}(h:Est U u1 y1 y0 q r)(_hp:0< y1)(hu1:u1< 4294967296)(hU:U< y1*4294967296+y0)(ht:4294967296≤q∨4294967296*r+u1< q*y0):(U*4294967296+u1) / (y1*4294967296+y0)< q:=by
 rcases ht with ht|ht
 ·refine Nat.lt_of_lt_of_le ?_ ht;rw [Nat.div_lt_iff_lt_mul (by omega)];omega
 ·rw [Nat.div_lt_iff_lt_mul (by omega),CJ]
  have:=h.sum
  omega
theorem Est.pos{U u1 y1 y0 q r:Nat}(h:Est U u1 y1 y0 q r)(hp:0< y1)(hu1:u1< 4294967296)(hU:U< y1*4294967296+y0)(ht:4294967296≤q∨4294967296*r+u1< q*y0):1≤q:=by
 have g:=h.gt hp hu1 hU ht;exact Nat.lt_of_le_of_lt (Nat.zero_le _) g
theorem Nr{U y1 q r:Nat}(h:q*y1+r=U)(hq:1≤q):(q - 1)*y1+(r+y1)=U:=by
 have e:q*y1=(q - 1)*y1+y1:=by
  conv=>lhs;rw [show q=(q - 1)+1 by omega,Nat.add_mul,Nat.one_mul]
 omega
theorem Est.next{U u1 y1 y0 q r:Nat}(h:Est U u1 y1 y0 q r)(hp:0< y1)(hu1:u1< 4294967296)(hU:U< y1*4294967296+y0)(ht:4294967296≤q∨4294967296*r+u1< q*y0)(hr:r+y1< 4294967296):Est U u1 y1 y0 (q - 1) (r+y1):=by
 have g:=h.gt hp hu1 hU ht;have p:=h.pos hp hu1 hU ht;refine ⟨Nr h.sum p,hr,by have:=h.top;omega, ?_⟩;generalize (U*4294967296+u1) / (y1*4294967296+y0)=t at *;omega
theorem Est.broke{U u1 y1 y0 q r:Nat}(h:Est U u1 y1 y0 q r)(hp:0< y1)(hy0:y0< 4294967296)(hu1:u1< 4294967296)(hU:U< y1*4294967296+y0)(ht:4294967296≤q∨4294967296*r+u1< q*y0)(hr:4294967296≤r+y1):q - 1=(U*4294967296+u1) / (y1*4294967296+y0):=by
 have g:=h.gt hp hu1 hU ht;have s:=Nr h.sum (h.pos hp hu1 hU ht);have t:=h.top;apply Nat.le_antisymm _ (Nat.le_sub_one_of_lt g);rw [Nat.le_div_iff_mul_le (by omega),CJ];have b:(q - 1)*y0≤4294967296*4294967296:=Nat.mul_le_mul (by omega) (by omega);omega
theorem Dx(_V Y T W B v q r:Nat)(hT:T=W*B+v)(hd:Y*q+r=W)(_hq:q=W / Y)(_hr:r=W%Y)(hY:0< Y):
  T / Y=q*B+(r*B+v) / Y∧T%Y=(r*B+v)%Y:=by
 have e:T=(r*B+v)+Y*(q*B):=by
  rw [hT, ←hd,Nat.add_mul,Nat.mul_assoc,Nat.add_comm (Y*(q*B)),Nat.add_assoc,Nat.add_assoc,Nat.add_comm v]
 rw [e];exact ⟨(Nat.add_mul_div_left _ _ hY).trans (Nat.add_comm _ _),Nat.add_mul_mod_self_left _ _ _⟩
theorem Ew(U V W T:Int)(hT:T=U*18446744073709551616+V)(hW:W=U*4294967296+V / 4294967296):T=W*4294967296+V%4294967296:=by
 omega
theorem DJ(U V W T:Nat)(hT:T=U*18446744073709551616+V)(hW:W=U*4294967296+V / 4294967296):T=W*4294967296+V%4294967296:=by
 have h:=Ew U V W T (by rw [hT,Int.natCast_add,Int.natCast_mul];rfl) (by rw [hW,Int.natCast_add,Int.natCast_mul,Int.natCast_ediv];rfl);apply Int.ofNat.inj;show (T:Int)=((W*4294967296+V%4294967296:Nat):Int);rw [Int.natCast_add,Int.natCast_mul,Int.natCast_emod];exact h
theorem Do(U V Y T W:Nat)(hY:0< Y)(hT:T=U*18446744073709551616+V)(hW:W=U*4294967296+V / 4294967296):
  T / Y=W / Y*4294967296+(W%Y*4294967296+V%4294967296) / Y∧T%Y=(W%Y*4294967296+V%4294967296)%Y:=
 Dx V Y T W 4294967296 (V%4294967296) (W / Y) (W%Y) (DJ U V W T hT hW) (Nat.div_add_mod W Y) rfl rfl hY
theorem whole(N y s U V T W:Nat)(hy:0< y)(hN:N*2 ^ s=T)(hT:T=U*18446744073709551616+V)(hW:W=U*4294967296+V / 4294967296):
  N / y=W / (y*2 ^ s)*4294967296+(W%(y*2 ^ s)*4294967296+V%4294967296) / (y*2 ^ s)∧
  N%y*2 ^ s=(W%(y*2 ^ s)*4294967296+V%4294967296)%(y*2 ^ s):=by
 have hp:0< 2 ^ s:=Nat.two_pow_pos s;obtain ⟨a,b⟩:=Do U V (y*2 ^ s) T W (Nat.mul_pos hy hp) hT hW;have e1:N / y=N*2 ^ s / (y*2 ^ s):=(Nat.mul_div_mul_right _ _ hp).symm;have e2:N%y*2 ^ s=N*2 ^ s%(y*2 ^ s):=(Nat.mul_mod_mul_right _ _ _).symm;rw [hN] at e1 e2;exact ⟨e1.trans a,e2.trans b⟩
theorem rem_wrap(U u1 Y:Nat)(hY:0< Y)(hY':Y< 18446744073709551616):
  ((((U:Int)*4294967296)%18446744073709551616+u1)%18446744073709551616 - ((((U*4294967296+u1) / Y:Nat):Int)*Y)%18446744073709551616)%18446744073709551616=(((U*4294967296+u1)%Y:Nat):Int):=by
 have d:=Nat.div_add_mod (U*4294967296+u1) Y;have l:=Nat.mod_lt (U*4294967296+u1) hY;rw [←Int.natCast_mul,Nat.mul_comm _ Y];generalize Y*((U*4294967296+u1) / Y)=Z at *;generalize (U*4294967296+u1)%Y=R at *;omega
end DivM
end
section
open Go.RowKit
theorem Gn(y s:Nat)(w:World)(h0:y≠0)(h1:y< 18446744073709551616)(hs:s=64 - Lib.bitLen y):
  Calls prog 222 #[.int .u64 y] w fun e w'=>e= .returned (.int .i64 s)∧w=w':=by
 obtain ⟨b1,b2⟩:=DivM.bitLen_bounds y h0 h1;refine (Gp y w (by omega) (by omega) (by simpa using b2)).mono ?_;rintro e w' ⟨rfl,rfl⟩;refine ⟨?_,rfl⟩
 congr 2
 simp;omega
theorem Oe(a s M:Nat)(h:a*2 ^ s%18446744073709551616=M):IntKind.u64.wrap ((a:Int)*2 ^ s)=(M:Int):=by
 rw [IntKind.wrap_u64, ←h];rw [Int.natCast_emod,Int.natCast_mul,Int.natCast_pow];rfl
theorem Fz(a k M:Nat)(h:a / 2 ^ k=M):(a:Int) / 2 ^ k=(M:Int):=by
 rw [←h,Int.natCast_ediv,Int.natCast_pow];rfl
theorem orN(a b M:Nat)(ha:a< 18446744073709551616)(hb:b< 18446744073709551616)(h:a|||b=M):bits .or .u64 (a:Int) (b:Int)=(M:Int):=by
 rw [bits_or_u64_nat a b ha hb,h]
theorem BC(a b:Nat):(a:Int) / (b:Int)=((a / b:Nat):Int):=by rw [Int.natCast_ediv]
theorem Dt(a b:Nat):(a:Int).tdiv (b:Int)=((a / b:Nat):Int):=by rw [Int.tdiv_eq_ediv_of_nonneg (by omega),Int.natCast_ediv]
theorem LZ(U q y1 R:Nat)(h:q*y1+R=U)(hR:R< 18446744073709551616):IntKind.u64.wrap ((U:Int) - ((q*y1:Nat):Int))=(R:Int):=by
 rw [IntKind.wrap_u64, ←h];omega
theorem KE(U u1 Y q R:Nat)(hY:0< Y)(hY':Y< 18446744073709551616)(hq:q=(U*4294967296+u1) / Y)(hR:R=(U*4294967296+u1)%Y):
  IntKind.u64.wrap (IntKind.u64.wrap (IntKind.u64.wrap ((U:Int)*4294967296)+u1) - IntKind.u64.wrap ((q*Y:Nat):Int))=(R:Int):=by
 simp only [IntKind.wrap_u64];rw [hq,hR,Int.natCast_mul];exact DivM.rem_wrap U u1 Y hY hY'
theorem Eb{k l:IntKind}{a b c d:Int}(h1:a=c)(h2:b=d):Ending.returned (.tuple #[.int k a, .int l b])= .returned (.tuple #[.int k c, .int l d]):=by rw [h1,h2]
theorem CF(hi lo y:Nat)(hl:lo< 18446744073709551616)(h1:hi< y):(hi*18446744073709551616+lo) / y< 18446744073709551616:=by
 rw [Nat.div_lt_iff_lt_mul (by omega)]
 have:=Nat.mul_le_mul_left 18446744073709551616 (show hi+1≤y from h1)
 omega
theorem Hx(a b c:Int)(hc:c=a*4294967296+b)(h0:0≤c)(hl:c< 18446744073709551616):((a*4294967296)%18446744073709551616+b)%18446744073709551616=c:=by omega
theorem Ed(q a b:Nat)(h:q=a*4294967296+b)(hl:q< 18446744073709551616):IntKind.u64.wrap (IntKind.u64.wrap ((a:Int)*4294967296)+(b:Int))=(q:Int):=by
 simp only [IntKind.wrap_u64];exact Hx a b q (by rw [h,Int.natCast_add,Int.natCast_mul];rfl) (by omega) (by omega)
theorem Hv(m s R:Nat)(h:m*2 ^ s=R):(R:Int) / 2 ^ s=(m:Int):=by
 apply Fz;rw [←h];exact Nat.mul_div_cancel _ (Nat.two_pow_pos s)
theorem Lo(hi lo y:Nat)(w:World)(hl:lo< 18446744073709551616)(hy:y< 18446744073709551616)(h0:0< hi)(h1:hi< y):
  Calls prog 187 #[.int .u64 hi, .int .u64 lo, .int .u64 y] w fun e w'=>e= .returned (.tuple #[.int .u64 (((hi*18446744073709551616+lo) / y:Nat):Int), .int .u64 (((hi*18446744073709551616+lo)%y:Nat):Int)])∧ ∃n,w'=w.drewN n:=by
 obtain ⟨s,hs⟩: ∃s,s=64 - Lib.bitLen y:=⟨_,rfl⟩;have hz:=fun w=>Gn y s w (by omega) hy hs
 have nm:=DivM.norm y (by omega) hy;rw [←hs] at nm;have a0:s≤64:=by omega
 have B0:(s:Int)≤63:=by have:=(DivM.bitLen_bounds y (by omega) hy).1;omega
 have c1:((y:Int)==0)=false:=by simp;omega
 have c2:decide ((y:Int)≤hi)=false:=by simp;omega
 have c3:((hi:Int)==0)=false:=by simp;omega
 clear hs;have HZ:=Lib.hid hz;clear hz;obtain ⟨Y,hY⟩: ∃Y,Y=y*2 ^ s:=⟨_,rfl⟩;obtain ⟨U,hU⟩: ∃U,U=hi*2 ^ s+lo / 2 ^ (64 - s):=⟨_,rfl⟩;obtain ⟨V,hV⟩: ∃V,V=lo*2 ^ s%18446744073709551616:=⟨_,rfl⟩;rw [←hY] at nm;obtain ⟨nm1,nm2⟩:=nm;have G0:U< Y:=by rw [hU,hY];exact DivM.high_lt hi lo y s a0 hl h1
 have F0:V< 18446744073709551616:=by rw [hV];exact Nat.mod_lt _ (by omega)
 have hX:=DivM.shifted hi lo s a0;rw [←hU, ←hV] at hX;have v0:hi*2 ^ s< 18446744073709551616:=by have:=Nat.le_add_right (hi*2 ^ s) (lo / 2 ^ (64 - s));omega
 have C0:lo / 2 ^ (64 - s)< 18446744073709551616:=by have:=Nat.le_add_left (lo / 2 ^ (64 - s)) (hi*2 ^ s);omega
 have f1:=Oe y s Y (by rw [←hY];exact Nat.mod_eq_of_lt nm2);have f2:=Oe hi s (hi*2 ^ s) (Nat.mod_eq_of_lt v0);have f3:=Fz lo (64 - s) (lo / 2 ^ (64 - s)) rfl;have f4:=orN (hi*2 ^ s) (lo / 2 ^ (64 - s)) U v0 C0 (by rw [hU];exact DivM.or_add hi lo s a0 hl);have f5:=Oe lo s V hV.symm;have f6:=Mul64.maskN Y nm2;have f7:=Mul64.maskN V F0;obtain ⟨y1,A0⟩: ∃y1,y1=Y / 4294967296:=⟨_,rfl⟩;obtain ⟨y0,t0⟩: ∃y0,y0=Y%4294967296:=⟨_,rfl⟩;obtain ⟨u1,l0⟩: ∃u1,u1=V / 4294967296:=⟨_,rfl⟩;obtain ⟨u0,i0⟩: ∃u0,u0=V%4294967296:=⟨_,rfl⟩;have k0:Y=y1*4294967296+y0:=by omega
 have by1:2147483648≤y1:=by omega
 have by1':y1< 4294967296:=by omega
 have by0:y0< 4294967296:=by omega
 have bu1:u1< 4294967296:=by omega
 have bu0:u0< 4294967296:=by omega
 have f8:(Y:Int) / 4294967296=(y1:Int):=by omega
 have f9:(V:Int) / 4294967296=(u1:Int):=by omega
 rw [←t0] at f6;rw [←i0] at f7;have d0:U< y1*4294967296+y0:=by rw [←k0];exact G0
 have st:=DivM.Est.start by1 by1' by0 bu1 d0;have bq:U / y1< 18446744073709551616:=by have:=st.top;omega
 have f10:=Dt U y1;have f11:=Mul64.wrapN (U / y1) bq;have f12:=Mul64.mulN (U / y1) y1;have bm:U / y1*y1< 18446744073709551616:=by have:=st.sum;omega
 have f13:=Mul64.wrapN (U / y1*y1) bm;have f14:=LZ U (U / y1) y1 (U%y1) st.sum (by have:=st.low;omega);obtain ⟨q1,hq1⟩: ∃q1,q1=(U*4294967296+u1) / Y:=⟨_,rfl⟩;obtain ⟨W,hW⟩: ∃W,W=(U*4294967296+u1)%Y:=⟨_,rfl⟩;have HW:=Lib.hid hW;have D0:W< Y:=by rw [hW];exact Nat.mod_lt _ (by omega)
 have c0:W< y1*4294967296+y0:=by rw [←k0];exact D0
 have g1:=Mul64.mulN q1 Y;have g2:=KE U u1 Y q1 W (by omega) nm2 hq1 hW;have H0:=Lib.hid (And.intro g1 g2);have st0:=DivM.Est.start by1 by1' by0 bu0 c0;have bq0:W / y1< 18446744073709551616:=by have:=st0.top;omega
 have bm0:W / y1*y1< 18446744073709551616:=by have:=st0.sum;omega
 have HG:=Lib.hid (And.intro (BC W y1) (And.intro (Mul64.wrapN (W / y1) bq0) (And.intro (Mul64.mulN (W / y1) y1) (And.intro (Mul64.wrapN (W / y1*y1) bm0) (LZ W (W / y1) y1 (W%y1) st0.sum (by have:=st0.low;omega))))));have HT:=Lib.hid st0;clear st0;obtain ⟨q0,j0⟩: ∃q0,q0=(W*4294967296+u0) / Y:=⟨_,rfl⟩;obtain ⟨R,hR⟩: ∃R,R=(W*4294967296+u0)%Y:=⟨_,rfl⟩;have s0:=Lib.hid j0;have HN:=Lib.hid (DivM.whole (hi*18446744073709551616+lo) y s U V _ _ (by omega) rfl hX rfl);rw [←hY, ←l0, ←i0, ←hq1, ←hW, ←j0, ←hR] at HN;have g3:=KE W u0 Y q0 R (by omega) nm2 j0 hR;have HE:=Lib.hid (And.intro (Mul64.mulN q0 Y) g3);clear g3 j0 hR;clear g1 g2;have r0:=Lib.hid hq1;have HX:=Lib.hid hX;have g0:=Lib.hid k0;have HY:=Lib.hid hY;have HV:Hid (u1=V / 4294967296∧u0=V%4294967296):=Lib.hid ⟨l0,i0⟩;have HF:Hid _:=Lib.hid (And.intro f1 (And.intro f2 (And.intro f3 (And.intro f4 (And.intro f5 (And.intro f6 (And.intro f7 (And.intro f8 (And.intro f9 (And.intro f10 (And.intro f11 (And.intro f12 (And.intro f13 f14)))))))))))));have HS:=Lib.hid st;have F1:=Lib.hid f1;clear f1 f2 f3 f4 f5 f6 f7 f8 f9 f10 f11 f12 f13 f14 hY hU hV hX A0 t0 l0 i0 k0 hq1 hW st;go_enter func187,ntmps187;go_wp2_with fail;refine (HZ.out _).mono ?_;rintro e w' ⟨rfl,rfl⟩;go_upto_region 9 with fail
 simp only [F1.out];clear F1;go_upto_block 0 with fail
 have I0:=HF.out;obtain ⟨f1,f2,f3,f4,f5,f6,f7,f8,f9,f10,f11,f12,f13,f14⟩:=I0;simp only [f2,f3,f4,f5,f6,f7,f8,f9,f10,f11,f12,f13,f14];clear f1 f2 f3 f4 f5 f6 f7 f8 f9 f10 f11 f12 f13 f14;go_cut [15] (fun s15 wx=>s15= .int .u64 q1∧wx=w)
 case first=>
  go_wp2_with fail;go_loop [15,16] (fun q r=> ∃a b:Nat,q= .int .u64 a∧r= .int .u64 b∧DivM.Est U u1 y1 y0 a b) (fun q _=>(intOf q).toNat)
  case atStart=>exact ⟨_,_,rfl,rfl,HS.out⟩
  case round=>
   obtain ⟨a,b,rfl,rfl,he⟩:=hrel;have n0:=he.low;have m0:=he.top;have hp:0< y1:=by omega
   by_cases hA:4294967296≤a
   ·have hg:4294967296≤a∨4294967296*b+u1< a*y0:= .inl hA;have p0:decide ((4294967296:Int)≤(a:Int))=true:=by simp;omega
    by_cases hB:4294967296≤b+y1
    ·have hr:=he.broke hp by0 bu1 d0 hg hB;have HR:Hid (a - 1=q1):=Lib.hid (by rw [r0.out,g0.out];exact hr);have f0:decide ((4294967296:Int)≤(b:Int)+(y1:Int))=true:=by simp;omega
     clear hr;go_wp2;go_meet;exact ⟨congrArg (Value.int .u64) (by have:=HR.out;omega),rfl⟩
    ·have HN:=Lib.hid (he.next hp bu1 d0 hg (by omega));have f0:decide ((4294967296:Int)≤(b:Int)+(y1:Int))=false:=by simp;omega
     go_wp2;go_round
     case rel=>exact ⟨a - 1,b+y1,congrArg (Value.int .u64) (by omega),congrArg (Value.int .u64) (by omega),HN.out⟩
     case measure=>simp [intOf];omega
   ·have p0:decide ((4294967296:Int)≤(a:Int))=false:=by simp;omega
    have hm:a*y0< 18446744073709551616:=Nat.lt_of_le_of_lt (Nat.mul_le_mul (show a≤4294967295 by omega) (show y0≤4294967295 by omega)) (by decide);obtain ⟨z,hz⟩: ∃z,z=a*y0:=⟨_,rfl⟩;have z0:(a:Int)*(y0:Int)=(z:Int):=by rw [hz,Int.natCast_mul]
    rw [←hz] at hm;by_cases hC:4294967296*b+u1< z
    ·have hg:4294967296≤a∨4294967296*b+u1< a*y0:= .inr (by rw [←hz];exact hC);have o0:decide (4294967296*(b:Int)+(u1:Int)< (z:Int))=true:=by simp;omega
     by_cases hB:4294967296≤b+y1
     ·have hr:=he.broke hp by0 bu1 d0 hg hB;have b0:=he.pos hp bu1 d0 hg;have HR:Hid (a - 1=q1):=Lib.hid (by rw [r0.out,g0.out];exact hr);have f0:decide ((4294967296:Int)≤(b:Int)+(y1:Int))=true:=by simp;omega
      clear hr hz;go_wp2;go_meet;exact ⟨congrArg (Value.int .u64) (by have:=HR.out;omega),rfl⟩
     ·have HN:=Lib.hid (he.next hp bu1 d0 hg (by omega));have b0:=he.pos hp bu1 d0 hg;have f0:decide ((4294967296:Int)≤(b:Int)+(y1:Int))=false:=by simp;omega
      clear hz;go_wp2;go_round
      case rel=>exact ⟨a - 1,b+y1,congrArg (Value.int .u64) (by omega),congrArg (Value.int .u64) (by omega),HN.out⟩
      case measure=>simp [intOf];omega
    ·have hr:=he.done hp (by rw [←hz];omega);have HR:Hid (a=q1):=Lib.hid (by rw [r0.out,g0.out];exact hr);have o0:decide (4294967296*(b:Int)+(u1:Int)< (z:Int))=false:=by simp;omega
     clear hr hz;go_wp2;go_meet;exact ⟨congrArg (Value.int .u64) (by have:=HR.out;omega),rfl⟩
 case rest=>
  obtain ⟨rfl,rfl⟩:=hcut;go_upto_region 22 with fail
  have FW:=H0.out;obtain ⟨g1,g2⟩:=FW;simp only [g1,g2];clear g1 g2;go_upto_block 2 with fail
  have GF:=HG.out;obtain ⟨f10,f11,f12,f13,f14⟩:=GF;simp only [f10,f11,f12,f13,f14];clear f10 f11 f12 f13 f14;go_cut [18] (fun s18 wx=>s18= .int .u64 q0∧wx=wc)
  case first=>
   go_wp2_with fail;go_loop [18,16] (fun q r=> ∃a b:Nat,q= .int .u64 a∧r= .int .u64 b∧DivM.Est W u0 y1 y0 a b) (fun q _=>(intOf q).toNat)
   case atStart=>exact ⟨_,_,rfl,rfl,HT.out⟩
   case round=>
    obtain ⟨a,b,rfl,rfl,he⟩:=hrel;have n0:=he.low;have m0:=he.top;have hp:0< y1:=by omega
    by_cases hA:4294967296≤a
    ·have hg:4294967296≤a∨4294967296*b+u0< a*y0:= .inl hA;have p0:decide ((4294967296:Int)≤(a:Int))=true:=by simp;omega
     by_cases hB:4294967296≤b+y1
     ·have hr:=he.broke hp by0 bu0 c0 hg hB;have HR:Hid (a - 1=q0):=Lib.hid (by rw [s0.out,g0.out];exact hr);have f0:decide ((4294967296:Int)≤(b:Int)+(y1:Int))=true:=by simp;omega
      clear hr;go_wp2;go_meet;exact ⟨congrArg (Value.int .u64) (by have:=HR.out;omega),rfl⟩
     ·have HN:=Lib.hid (he.next hp bu0 c0 hg (by omega));have f0:decide ((4294967296:Int)≤(b:Int)+(y1:Int))=false:=by simp;omega
      go_wp2;go_round
      case rel=>exact ⟨a - 1,b+y1,congrArg (Value.int .u64) (by omega),congrArg (Value.int .u64) (by omega),HN.out⟩
      case measure=>simp [intOf];omega
    ·have p0:decide ((4294967296:Int)≤(a:Int))=false:=by simp;omega
     have hm:a*y0< 18446744073709551616:=Nat.lt_of_le_of_lt (Nat.mul_le_mul (show a≤4294967295 by omega) (show y0≤4294967295 by omega)) (by decide);obtain ⟨z,hz⟩: ∃z,z=a*y0:=⟨_,rfl⟩;have z0:(a:Int)*(y0:Int)=(z:Int):=by rw [hz,Int.natCast_mul]
     rw [←hz] at hm;by_cases hC:4294967296*b+u0< z
     ·have hg:4294967296≤a∨4294967296*b+u0< a*y0:= .inr (by rw [←hz];exact hC);have o0:decide (4294967296*(b:Int)+(u0:Int)< (z:Int))=true:=by simp;omega
      by_cases hB:4294967296≤b+y1
      ·have hr:=he.broke hp by0 bu0 c0 hg hB;have b0:=he.pos hp bu0 c0 hg;have HR:Hid (a - 1=q0):=Lib.hid (by rw [s0.out,g0.out];exact hr);have f0:decide ((4294967296:Int)≤(b:Int)+(y1:Int))=true:=by simp;omega
       clear hr hz;go_wp2;go_meet;exact ⟨congrArg (Value.int .u64) (by have:=HR.out;omega),rfl⟩
      ·have HN:=Lib.hid (he.next hp bu0 c0 hg (by omega));have b0:=he.pos hp bu0 c0 hg;have f0:decide ((4294967296:Int)≤(b:Int)+(y1:Int))=false:=by simp;omega
       clear hz;go_wp2;go_round
       case rel=>exact ⟨a - 1,b+y1,congrArg (Value.int .u64) (by omega),congrArg (Value.int .u64) (by omega),HN.out⟩
       case measure=>simp [intOf];omega
     ·have hr:=he.done hp (by rw [←hz];omega);have HR:Hid (a=q0):=Lib.hid (by rw [s0.out,g0.out];exact hr);have o0:decide (4294967296*(b:Int)+(u0:Int)< (z:Int))=false:=by simp;omega
      clear hr hz;go_wp2;go_meet;exact ⟨congrArg (Value.int .u64) (by have:=HR.out;omega),rfl⟩
  case rest=>
   obtain ⟨rfl,rfl⟩:=hcut;go_wp2;go_ret2;obtain ⟨g1,g2⟩:=HE.out;obtain ⟨n1,n2⟩:=HN.out;refine ⟨?_,0,rfl⟩;exact Eb (Ed _ _ _ n1 (CF hi lo y hl h1)) (by rw [g1,g2];exact Hv _ _ _ n2)
end
section
def Cg(m a b:Int):Prop:=a%m=b%m
namespace Cg
variable {m a b c d:Int}
theorem refl(m a:Int):Cg m a a:=rfl
theorem symm(h:Cg m a b):Cg m b a:=Eq.symm h
theorem trans(h:Cg m a b)(k:Cg m b c):Cg m a c:=Eq.trans h k
theorem mod(m a:Int):Cg m (a%m) a:=Int.emod_emod_of_dvd a (Int.dvd_refl m)
theorem mul(h:Cg m a b)(k:Cg m c d):Cg m (a*c) (b*d):=by
 unfold Cg at *;rw [Int.mul_emod,h,k, ←Int.mul_emod]
theorem add(h:Cg m a b)(k:Cg m c d):Cg m (a+c) (b+d):=by
 unfold Cg at *;rw [Int.add_emod,h,k, ←Int.add_emod]
theorem sub(h:Cg m a b)(k:Cg m c d):Cg m (a - c) (b - d):=by
 unfold Cg at *;rw [Int.sub_emod,h,k, ←Int.sub_emod]
theorem pow(h:Cg m a b): ∀n:Nat,Cg m (a ^ n) (b ^ n)
 |0=>by rw [Int.pow_zero,Int.pow_zero];exact refl _ _
 |n+1=>by rw [Int.pow_succ,Int.pow_succ];exact mul (pow h n) h
theorem mul_right(h:Cg m a b)(c:Int):Cg m (a*c) (b*c):=mul h (refl _ _)
theorem mul_left(h:Cg m a b)(c:Int):Cg m (c*a) (c*b):=mul (refl _ _) h
theorem of_eq(h:a=b):Cg m a b:=h ▸ refl _ _
theorem eq(h:Cg m a b)(a0:0≤a)(a1:a< m)(b0:0≤b)(b1:b< m):a=b:=by
 unfold Cg at h
 rwa [Int.emod_eq_of_lt a0 a1,Int.emod_eq_of_lt b0 b1] at h
theorem dvd(h:Cg m a b):m ∣ a - b:=Int.dvd_of_emod_eq_zero (by unfold Cg at h;rw [Int.sub_emod,h,Int.sub_self];rfl)
theorem of_dvd(h:m ∣ a - b):Cg m a b:=by
 obtain ⟨k,hk⟩:=h;have e:a=b+m*k:=by omega
 unfold Cg;rw [e,Int.add_mul_emod_self_left]
end Cg
theorem Fm(x:Int)(n:Nat):(x*x) ^ n=x ^ (2*n):=by
 rw [Int.pow_mul,show x ^ 2=x*x from by rw [Int.pow_succ,Int.pow_succ,Int.pow_zero,Int.one_mul]]
theorem Ms(k:Int)(h:0≤k)(h2:k%2=0):k.toNat=2*(k / 2).toNat:=by omega
theorem Kg(k:Int)(h:0≤k)(h2:k%2=1):k.toNat=2*(k / 2).toNat+1:=by omega
end
section
open Go.RowKit
def zO(m:Int):Bool:=decide (0< m) && decide (m≤2305843009213693952)
def xn(a b m:Int):Int:=if zO m then (a%m+b%m)%m else 0
def YQ(a b m:Int):Int:=if zO m then (a%m+m - b%m)%m else 0
theorem UB(m:Int)(w:World)(h:zO m=true):
  Calls prog 182 #[.int .u64 m] w fun e w'=>e= .returned (.bool true)∧w=w':=by
 simp [zO] at h;obtain ⟨h1,h2⟩:=h;go_enter func182,ntmps182;go_wp2;go_ret;exact ⟨rfl,rfl⟩
theorem NI(m:Int)(w:World)(h:zO m=false):
  Calls prog 182 #[.int .u64 m] w fun e w'=>e= .returned (.bool false)∧w=w':=by
 simp [zO] at h;by_cases h0:0< m
 ·have h1:=h h0;have h2:decide (m≤2305843009213693952)=false:=by simp;omega
  go_enter func182,ntmps182;go_wp2;go_ret;exact ⟨by simp,rfl⟩
 ·clear h;go_enter func182,ntmps182;go_wp2;go_ret;exact ⟨rfl,rfl⟩
theorem EX(a b m:Int)(w:World)(ha:U64 a)(hb:U64 b):
  Calls prog 142 #[.int .u64 a, .int .u64 b, .int .u64 m] w fun e w'=>e= .returned (.int .u64 (xn a b m))∧ ∃n,w'=w.drewN n:=by
 unfold U64 at ha hb;obtain ⟨ha0,ha1⟩:=ha;obtain ⟨hb0,hb1⟩:=hb;cases hm:zO m with
 |false=>
  have H:=Lib.hid hm;have hr:xn a b m=0:=by simp [xn,hm]
  rw [hr];clear hm hr;go_enter func142,ntmps142;go_wp2_with (go_at_call 182;refine (NI _ _ H.out).mono ?_;rintro e w' ⟨rfl,rfl⟩);go_ret;exact ⟨rfl,0,rfl⟩
 |true=>
  have H:=Lib.hid hm;have hr:xn a b m=(a%m+b%m)%m:=by simp [xn,hm]
  rw [hr];simp [zO] at hm;obtain ⟨hm0,hm1⟩:=hm;have e1:=Int.emod_nonneg a (show m≠0 by omega);have e2:=Int.emod_lt_of_pos a hm0;have e3:=Int.emod_nonneg b (show m≠0 by omega);have e4:=Int.emod_lt_of_pos b hm0;clear hr;go_enter func142,ntmps142;go_wp2_with (go_at_call 182;refine (UB _ _ H.out).mono ?_;rintro e w' ⟨rfl,rfl⟩);go_quiet (fail);go_wp2;go_ret;exact ⟨rfl,_,rfl⟩
theorem Ku(a b m:Int)(w:World)(ha:U64 a)(hb:U64 b):
  Calls prog 232 #[.int .u64 a, .int .u64 b, .int .u64 m] w fun e w'=>e= .returned (.int .u64 (YQ a b m))∧ ∃n,w'=w.drewN n:=by
 unfold U64 at ha hb;obtain ⟨ha0,ha1⟩:=ha;obtain ⟨hb0,hb1⟩:=hb;cases hm:zO m with
 |false=>
  have H:=Lib.hid hm;have hr:YQ a b m=0:=by simp [YQ,hm]
  rw [hr];clear hm hr;go_enter func232,ntmps232;go_wp2_with (go_at_call 182;refine (NI _ _ H.out).mono ?_;rintro e w' ⟨rfl,rfl⟩);go_ret;exact ⟨rfl,0,rfl⟩
 |true=>
  have H:=Lib.hid hm;have hr:YQ a b m=(a%m+m - b%m)%m:=by simp [YQ,hm]
  rw [hr];simp [zO] at hm;obtain ⟨hm0,hm1⟩:=hm;have e1:=Int.emod_nonneg a (show m≠0 by omega);have e2:=Int.emod_lt_of_pos a hm0;have e3:=Int.emod_nonneg b (show m≠0 by omega);have e4:=Int.emod_lt_of_pos b hm0;clear hr;go_enter func232,ntmps232;go_wp2_with (go_at_call 182;refine (UB _ _ H.out).mono ?_;rintro e w' ⟨rfl,rfl⟩);go_quiet (fail);go_wp2;go_ret;exact ⟨rfl,_,rfl⟩
theorem Je(x y:Nat)(hx:x< 18446744073709551616)(hy:y< 18446744073709551616)(w:World):
  Calls prog 183 #[.int .u64 x, .int .u64 y] w fun e w'=>e= .returned (.tuple #[.int .u64 ((x*y / 18446744073709551616:Nat):Int), .int .u64 ((x*y%18446744073709551616:Nat):Int)])∧w=w':=by
 obtain ⟨bd,bt,bw,hhi⟩:=Lib.mul64_hi x y hx hy;have ba:=Lib.half_mul_le (a:=x / 4294967296) (b:=y / 4294967296) (by omega) (by omega);have bb:=Lib.half_mul_le (a:=x / 4294967296) (b:=y%4294967296) (by omega) (by omega);have bc:=Lib.half_mul_le (a:=x%4294967296) (b:=y / 4294967296) (by omega) (by omega);have ba':x / 4294967296*(y / 4294967296)< 18446744073709551616:=by omega
 have bb':x / 4294967296*(y%4294967296)< 18446744073709551616:=by omega
 have bc':x%4294967296*(y / 4294967296)< 18446744073709551616:=by omega
 have bh1:x / 4294967296*(y / 4294967296)+(x / 4294967296*(y%4294967296)+x%4294967296*(y%4294967296) / 4294967296) / 4294967296< 18446744073709551616:=by omega
 have bh:x / 4294967296*(y / 4294967296)+(x / 4294967296*(y%4294967296)+x%4294967296*(y%4294967296) / 4294967296) / 4294967296+((x / 4294967296*(y%4294967296)+x%4294967296*(y%4294967296) / 4294967296)%4294967296+x%4294967296*(y / 4294967296)) / 4294967296< 18446744073709551616:=by omega
 go_enter func183,ntmps183;go_wp2;simp only [Mul64.maskN x hx,Mul64.maskN y hy,Mul64.divN,Mul64.mulN,Mul64.addN,Mul64.wrapN _ bd,Mul64.wrapN _ bb',Mul64.wrapN _ bt,Mul64.maskN _ bt,Mul64.wrapN _ bc',Mul64.wrapN _ bw,Mul64.wrapN _ ba',Mul64.wrapN _ bh1,Mul64.wrapN _ bh,Mul64.wrapM (x*y)];rw [hhi];go_ret2;exact ⟨rfl,rfl⟩
end
section
open Go Go.RowKit
section
variable {P:Program} {ops:Array Oper} {md:Region.Mode} {R:Act→World→Prop} {Q:Exit→Act→World→Prop} {l0 n:Nat}
def Cv(R:Act→World→Prop):Exit→Act→World→Prop:=fun e a w=>e= .normal∧R a w
theorem VB: ¬LetsOut (Cv R):=by
 rintro ⟨a,w,e,_⟩;cases e
theorem VA{o:Oper}{a:Act}{w:World}{K K':Act→World→Prop}(hd: ∀c,o.op≠ .defer c)(hK: ∀a w,K a w→K' a w)(h:o.wp P a w K (Cv R)):o.wpIn (Fence.wide.inRound l0) n P a w K' Q:=by
 refine ⟨fun _ _=>trivial, ?_⟩;rw [Oper.semAt_plain _ _ _ hd];unfold Oper.wp at h;generalize (execOp a.eval o).run P w=r at *;cases r with
 |ok x w'=>
  cases x with
  |value v=>exact hK _ _ h
  |skip=>exact hK _ _ h
  |defer d=>exact hK _ _ h
  |enter f args=>
   refine ⟨fun h=>by simp [Fence.wide] at h,CallsIn.inRound l0 (callsIn_wide.2 ?_)⟩;refine Calls.mono h ?_;intro e w'' he;cases e with
   |returned v=>exact hK _ _ he
   |panicked c=>exact absurd he.1 (by simp)
   |outgrown=>exact absurd he VB
  |row row args=>
   refine ⟨fun h=>by simp [Fence.wide] at h,fun c cs _=> ?_⟩;obtain ⟨v,w'',r,s⟩:=h c cs;exact ⟨v,w'',hK _ _ r,stepsIn_wide.2 s⟩
  |round l f ts c1 c2=>exact h.elim
  |_=>exact h.elim
 |halt x w'=>
  cases x with
  |panic v=>exact absurd h.1 (by simp)
  |_=>exact h.elim
theorem Th(hd: ∀(i:Nat) (o:Oper) c,ops[i]? =some o→o.op≠ .defer c)(hR: ∀a w,R a w→Q .normal a w):
  ∀(f:Nat) (listed:Array Bool) (a:Act) (w:World),wpAny P md ops (Cv R) f listed a w→wpAnyIn (Fence.wide.inRound l0) n P md ops Q f listed a w:=by
 intro f;induction f with
 |zero=>intro listed a w h;exact ⟨h.1,hR _ _ h.2.2⟩
 |succ f ih=>
  intro listed a w h;refine ⟨fun e=>hR _ _ (h.1 e).2,fun i hi=> ?_⟩;have h2:=h.2 i hi;unfold wpOp at h2;unfold wpOpIn;cases ho:ops[i]? with
  |none=>simp only [ho] at h2 ⊢;exact ih _ _ _ h2
  |some o=>
   simp only [ho] at h2 ⊢;split
   ·rename_i hw;rw [if_pos hw] at h2;rcases h2 with h2|h2
    ·exact VA (fun c=>hd i o c ho) (fun a w k=>ih _ _ _ k) h2
    ·exact absurd h2.2 VB
   ·rename_i hw;rw [if_neg hw] at h2;exact ⟨fun _ _=>trivial,ih _ _ _ h2⟩
def Ru(ops:Array Oper):Bool:=ops.all fun o=>match o.op with| .defer _=>false|_=>true
theorem VC(h:Ru ops=true): ∀(i:Nat) (o:Oper) c,ops[i]? =some o→o.op≠ .defer c:=by
 intro i o c hi e;obtain ⟨hlt,hk⟩:=Array.getElem?_eq_some_iff.1 hi
 have:=Array.all_eq_true.1 h i hlt
 rw [hk,e] at this;exact absurd this (by simp)
end
end
section
open Go Go.RowKit Go.Shelf
attribute [local go_sem] Oper.semAt_some
theorem RU(v:Value)(l:List Int)(i:Nat)(X:Nat→Prop)(w:World)(h:Sl ze X w v l)(hi:(i:Int)≤9223372036854775807):
  Calls prog 191 #[v, .int .i64 i] w fun e w'=>e= .returned (.int .u64 (l[i]?.getD 0))∧w'=w:=by
 obtain ⟨A,c,rfl,hc1,hc2⟩:=h.form;have hi0:(0:Int)≤(i:Int):=by omega
 by_cases hl:i< l.length
 ·obtain ⟨g,o,c',e,_,_,hcu,_⟩:=h.atU hl;injection e with e1 e2 e3
  subst e1 e3;have hli:(i:Int)< (l.length:Int):=by omega
  rw [show l[i]?.getD 0=l[i] by rw [List.getElem?_eq_getElem hl];rfl];clear h e2;go_enter func191,ntmps191;go_wp2;go_ret;exact ⟨rfl,rfl⟩
 ·have hli: ¬(i:Int)< (l.length:Int):=by omega
  have hli2:(l.length:Int)≤(i:Int):=by omega
  rw [show l[i]?.getD 0=0 by rw [List.getElem?_eq_none (by omega)];rfl];clear h;go_enter func191,ntmps191;go_wp2;go_ret;exact ⟨rfl,rfl⟩
def Ua(a b:List Int):List (Int×Int):=(List.range (max a.length b.length)).map fun i=>(a[i]?.getD 0,b[i]?.getD 0)
abbrev UU:={x:Int×Int // U64 x.1∧U64 x.2}
def xo(n₀ Ba Bb:Nat)(A B:World):Prop:=Below n₀ A B∧B.heap[Ba]? =A.heap[Ba]? ∧B.heap[Bb]? =A.heap[Bb]?
theorem xo.refl(n₀ Ba Bb:Nat)(A:World):xo n₀ Ba Bb A A:=⟨Below.refl _ _,rfl,rfl⟩
theorem xo.drew(n₀ Ba Bb:Nat)(A:World):xo n₀ Ba Bb A A.drew:=⟨⟨rfl,rfl,rfl,nRf _,fun _ _=>rfl⟩,rfl,rfl⟩
theorem xo.trans{n₀ Ba Bb:Nat}{A B C:World}(h:xo n₀ Ba Bb A B)(k:xo n₀ Ba Bb B C):xo n₀ Ba Bb A C:=⟨h.1.trans k.1,k.2.1.trans h.2.1,k.2.2.trans h.2.2⟩
theorem zl{w w':World}(h:Below w.heap.size w w'):w.grownBy w' none:=⟨h.1,h.2,h.3,h.4,fun k hk _=>h.5 k hk⟩
theorem XF{X:Nat→Prop}{w:World}{v:Value}{l:List Int}(k:Nat)(h:Sl ze X w v l):U64 (l[k]?.getD 0):=by
 by_cases hk:k< l.length
 ·obtain ⟨_,_,_,_,_,_,_,u⟩:=h.atU hk;rw [List.getElem?_eq_getElem hk];exact u
 ·rw [List.getElem?_eq_none (by omega)];exact ⟨by decide,by decide⟩
theorem KR(n:Nat)(hn:1≤n)(l Ba Bb:Nat)(va vb:Value)(a b:List Int)(X:Nat→Prop)(J Jx:List UU→World→Prop)(w₀:World)
  (hY: ∀pre x W,J pre W→pre.length< (Ua a b).length→YieldAt Fence.wide (n - 1) prog l #[.int .u64 x.1.1, .int .u64 x.1.2] W fun e W'=>
   (e= .returned (.bool true)∧J (pre++ [x]) W'∧xo w₀.heap.size Ba Bb W W')∨(e= .returned (.bool false)∧Jx (pre++ [x]) W'))
  (W:World) (hJ:AbidesFrom W.heap.size J) (v0:Below w₀.heap.size w₀ W) (r0:Boxed W Ba 31 va) (q0:Boxed W Bb 31 vb) (hA:Sl ze X w₀ va a) (hB:Sl ze X w₀ vb b) (h0:J [] W):
  CallsIn Fence.wide n prog 190 #[.func (.yield l) #[] #[], .pointer (some ⟨Ba,0,none⟩), .pointer (some ⟨Bb,0,none⟩)] W fun e W'=>(∃v,e= .returned v)∧
   ((∃ys,ys.map Subtype.val=Ua a b∧J ys W')∨(∃pre,True∧Jx pre W')):=by
 refine callsIn_of_wp func190 rfl trivial ?_ rfl;simp only [ntmps190,List.size_toArray,List.length_cons,List.length_nil,Nat.reduceAdd,Nat.reduceSub,Array.replicate_succ,Array.replicate_zero,List.push_toArray,List.append_toArray,List.nil_append,List.cons_append];obtain ⟨A1,c1,rfl,_,_⟩:=hA.form;obtain ⟨A2,c2,rfl,_,_⟩:=hB.form;have ca:=r0.cell;have cb:=q0.cell;have HA:=za hA;have HB:=za hB;have HL:Hid ((Ua a b).length=max a.length b.length):=za (by simp [Ua]);have B0:Hid (∀k (h:k< (Ua a b).length),(Ua a b)[k]=(a[k]?.getD 0,b[k]?.getD 0)):=za (fun k h=>by simp [Ua]);have I0:a.length≤9223372036854775807:=hA.bound;have H0:b.length≤9223372036854775807:=hB.bound;have A0:=za r0;have z0:=za q0;have y0:=za h0;clear hA hB r0 q0 h0;by_cases G0:a.length< b.length
 ·have HN:Hid (b.length=(Ua a b).length):=za (by rw [HL.z];omega)
  gi_wp2
  gi_loopw [10] (fun s10 wr=> ∃(k:Nat) (pre:List UU),k≤b.length∧s10= .int .i64 k∧Hid (pre.map Subtype.val=(Ua a b).take k∧J pre wr∧xo w₀.heap.size Ba Bb W wr)) (fun s10 _=>b.length - (intOf s10).toNat)
  case atStart=>exact ⟨0, [],by omega,rfl,za ⟨rfl,y0.z,xo.refl _ _ _ _⟩⟩
  case round=>
   obtain ⟨k,pre,hk,rfl,HX⟩:=hrel;by_cases p0:k< b.length
   ·have C0:(k:Int)< (b.length:Int):=by omega
    have c0:k< (Ua a b).length:=by rw [←HN.z];exact p0
    have i0:(k:Int)≤9223372036854775807:=by omega
    have o0:pre.length=k:=by have:=congrArg List.length HX.z.1;simpa [Nat.min_eq_left (Nat.le_of_lt c0)] using this
    have F0:wr.cell? ⟨Ba,0,none⟩=some (.slice A1 a.length c1):=(World.cell?_of_block (w:=W) HX.z.2.2.2.1).trans A0.z.cell;have D0:wr.cell? ⟨Bb,0,none⟩=some (.slice A2 b.length c2):=(World.cell?_of_block (w:=W) HX.z.2.2.2.2).trans z0.z.cell;have j0:J pre wr.drew:=hJ _ wr wr.drew none HX.z.2.1 (zf (gRr wr none) 1) (by simp);have m0:Hid (w₀.grownBy wr none):=za (zl (v0.trans HX.z.2.2.1));have l0:Hid (∀w',wr.grownBy w' none→Sl ze X w' (.slice A1 a.length c1) a):=za (fun w' hw=>HA.z.kept (m0.z.trans hw));have k0:Hid (∀w',wr.grownBy w' none→Sl ze X w' (.slice A2 b.length c2) b):=za (fun w' hw=>HB.z.kept (m0.z.trans hw));obtain ⟨xa,b0⟩:=exq (a[k]?.getD 0);obtain ⟨xb,a0⟩:=exq (b[k]?.getD 0);have f0:U64 xa:=by rw [b0];exact XF k (l0.z wr (gRr _ _))
    have d0:U64 xb:=by rw [a0];exact XF k (k0.z wr (gRr _ _))
    obtain ⟨fn,tmps,assign,body,hy,hR⟩:=hY _ (⟨(xa,xb),f0,d0⟩:UU) wr.drew j0 (by rw [o0];exact c0);dsimp only at hy;have HR:=za (hR.mono (R':=fun e W'=> ∃bb:Bool,e= .returned (.bool bb)∧Hid ((bb=true∧J (pre++ [(⟨(xa,xb),f0,d0⟩:UU)]) W'∧xo w₀.heap.size Ba Bb wr.drew W')∨(bb=false∧Jx (pre++ [(⟨(xa,xb),f0,d0⟩:UU)]) W'))) (fun e W' h=>by
     rcases h with ⟨h1,h2,h3⟩|⟨h1,h2⟩
     ·exact ⟨true,h1,za (.inl ⟨rfl,h2,h3⟩)⟩
     ·exact ⟨false,h1,za (.inr ⟨rfl,h2⟩)⟩))
    have u0:Hid (∀w',wr.grownBy w' none→Calls prog 191 #[.slice A1 a.length c1, .int .i64 k] w' fun e g0=>e= .returned (.int .u64 xa)∧g0=w'):=za (fun w' hw=>by rw [b0];exact RU _ a k X w' (l0.z w' hw) i0);have t0:Hid (∀w',wr.grownBy w' none→Calls prog 191 #[.slice A2 b.length c2, .int .i64 k] w' fun e g0=>e= .returned (.int .u64 xb)∧g0=w'):=za (fun w' hw=>by rw [a0];exact RU _ b k X w' (k0.z w' hw) i0);have s0:Hid ((pre++ [(⟨(xa,xb),f0,d0⟩:UU)]).map Subtype.val=(Ua a b).take (k+1)):=za (by
     rw [lMa,HX.z.1,tSg c0,B0.z k c0, ←b0, ←a0];rfl)
    have n0:Hid (wr.grownBy wr.drew none):=za (zf (gRr wr none) 1);clear hR j0 ca cb b0 a0
    gi_wp2
    gi_region_with (first
     |(refine ⟨trivial, ?_⟩;gi_at_call 191;(with_reducible refine (callsIn_wide.2 (u0.z _ n0.z)).mono ?_);rintro e w' ⟨rfl,rfl⟩)
     |(refine ⟨trivial, ?_⟩;gi_at_call 191;(with_reducible refine (callsIn_wide.2 (t0.z _ n0.z)).mono ?_);rintro e w' ⟨rfl,rfl⟩)
     |((with_reducible refine HR.z.mono ?_);rintro e W' ⟨bb,rfl,hout⟩))
    all_goals (cases bb with
     |true=>
      gi_wp2
      rcases hout.out with ⟨_,hJ2,hK2⟩|⟨h,_⟩
      ·exact ⟨⟨k+1,_,by omega,by go_num,za ⟨s0.z,hJ2,HX.z.2.2.trans ((xo.drew _ _ _ wr).trans hK2)⟩⟩,by simp [intOf];omega⟩
      ·cases h
     |false=>
      gi_wp2
      rcases hout.out with ⟨h,_⟩|⟨_,hJx2⟩
      ·cases h
      ·refine bodyPost_ret (results_none rfl _ _ _) rfl ?_;exact ⟨⟨_,rfl⟩, .inr ⟨_,hJx2⟩⟩)
   ·obtain rfl:k=b.length:=by omega
    gi_wp2
    go_end0;exact ⟨⟨_,rfl⟩, .inl ⟨pre,by rw [HX.z.1,HN.z,List.take_length],HX.z.2.1⟩⟩
 ·have HN:Hid (a.length=(Ua a b).length):=za (by rw [HL.z];omega)
  gi_wp2
  gi_loopw [10] (fun s10 wr=> ∃(k:Nat) (pre:List UU),k≤a.length∧s10= .int .i64 k∧Hid (pre.map Subtype.val=(Ua a b).take k∧J pre wr∧xo w₀.heap.size Ba Bb W wr)) (fun s10 _=>a.length - (intOf s10).toNat)
  case atStart=>exact ⟨0, [],by omega,rfl,za ⟨rfl,y0.z,xo.refl _ _ _ _⟩⟩
  case round=>
   obtain ⟨k,pre,hk,rfl,HX⟩:=hrel;by_cases p0:k< a.length
   ·have C0:(k:Int)< (a.length:Int):=by omega
    have c0:k< (Ua a b).length:=by rw [←HN.z];exact p0
    have i0:(k:Int)≤9223372036854775807:=by omega
    have o0:pre.length=k:=by have:=congrArg List.length HX.z.1;simpa [Nat.min_eq_left (Nat.le_of_lt c0)] using this
    have F0:wr.cell? ⟨Ba,0,none⟩=some (.slice A1 a.length c1):=(World.cell?_of_block (w:=W) HX.z.2.2.2.1).trans A0.z.cell;have D0:wr.cell? ⟨Bb,0,none⟩=some (.slice A2 b.length c2):=(World.cell?_of_block (w:=W) HX.z.2.2.2.2).trans z0.z.cell;have j0:J pre wr.drew:=hJ _ wr wr.drew none HX.z.2.1 (zf (gRr wr none) 1) (by simp);have m0:Hid (w₀.grownBy wr none):=za (zl (v0.trans HX.z.2.2.1));have l0:Hid (∀w',wr.grownBy w' none→Sl ze X w' (.slice A1 a.length c1) a):=za (fun w' hw=>HA.z.kept (m0.z.trans hw));have k0:Hid (∀w',wr.grownBy w' none→Sl ze X w' (.slice A2 b.length c2) b):=za (fun w' hw=>HB.z.kept (m0.z.trans hw));obtain ⟨xa,b0⟩:=exq (a[k]?.getD 0);obtain ⟨xb,a0⟩:=exq (b[k]?.getD 0);have f0:U64 xa:=by rw [b0];exact XF k (l0.z wr (gRr _ _))
    have d0:U64 xb:=by rw [a0];exact XF k (k0.z wr (gRr _ _))
    obtain ⟨fn,tmps,assign,body,hy,hR⟩:=hY _ (⟨(xa,xb),f0,d0⟩:UU) wr.drew j0 (by rw [o0];exact c0);dsimp only at hy;have HR:=za (hR.mono (R':=fun e W'=> ∃bb:Bool,e= .returned (.bool bb)∧Hid ((bb=true∧J (pre++ [(⟨(xa,xb),f0,d0⟩:UU)]) W'∧xo w₀.heap.size Ba Bb wr.drew W')∨(bb=false∧Jx (pre++ [(⟨(xa,xb),f0,d0⟩:UU)]) W'))) (fun e W' h=>by
     rcases h with ⟨h1,h2,h3⟩|⟨h1,h2⟩
     ·exact ⟨true,h1,za (.inl ⟨rfl,h2,h3⟩)⟩
     ·exact ⟨false,h1,za (.inr ⟨rfl,h2⟩)⟩))
    have u0:Hid (∀w',wr.grownBy w' none→Calls prog 191 #[.slice A1 a.length c1, .int .i64 k] w' fun e g0=>e= .returned (.int .u64 xa)∧g0=w'):=za (fun w' hw=>by rw [b0];exact RU _ a k X w' (l0.z w' hw) i0);have t0:Hid (∀w',wr.grownBy w' none→Calls prog 191 #[.slice A2 b.length c2, .int .i64 k] w' fun e g0=>e= .returned (.int .u64 xb)∧g0=w'):=za (fun w' hw=>by rw [a0];exact RU _ b k X w' (k0.z w' hw) i0);have s0:Hid ((pre++ [(⟨(xa,xb),f0,d0⟩:UU)]).map Subtype.val=(Ua a b).take (k+1)):=za (by
     rw [lMa,HX.z.1,tSg c0,B0.z k c0, ←b0, ←a0];rfl)
    have n0:Hid (wr.grownBy wr.drew none):=za (zf (gRr wr none) 1);clear hR j0 ca cb b0 a0
    gi_wp2
    gi_region_with (first
     |(refine ⟨trivial, ?_⟩;gi_at_call 191;(with_reducible refine (callsIn_wide.2 (u0.z _ n0.z)).mono ?_);rintro e w' ⟨rfl,rfl⟩)
     |(refine ⟨trivial, ?_⟩;gi_at_call 191;(with_reducible refine (callsIn_wide.2 (t0.z _ n0.z)).mono ?_);rintro e w' ⟨rfl,rfl⟩)
     |((with_reducible refine HR.z.mono ?_);rintro e W' ⟨bb,rfl,hout⟩))
    all_goals (cases bb with
     |true=>
      gi_wp2
      rcases hout.out with ⟨_,hJ2,hK2⟩|⟨h,_⟩
      ·exact ⟨⟨k+1,_,by omega,by go_num,za ⟨s0.z,hJ2,HX.z.2.2.trans ((xo.drew _ _ _ wr).trans hK2)⟩⟩,by simp [intOf];omega⟩
      ·cases h
     |false=>
      gi_wp2
      rcases hout.out with ⟨h,_⟩|⟨_,hJx2⟩
      ·cases h
      ·refine bodyPost_ret (results_none rfl _ _ _) rfl ?_;exact ⟨⟨_,rfl⟩, .inr ⟨_,hJx2⟩⟩)
   ·obtain rfl:k=a.length:=by omega
    gi_wp2
    go_end0;exact ⟨⟨_,rfl⟩, .inl ⟨pre,by rw [HX.z.1,HN.z,List.take_length],HX.z.2.1⟩⟩
end
section
def yi(a m:Int):Prop:= ∃x,0≤x∧x< m∧Cg m (a*x) 1
open Classical in
noncomputable def Qc(a m:Int):Int:=if h:yi a m then Classical.choose h else 0
theorem QT{a m:Int}(h:yi a m):0≤Qc a m∧Qc a m< m∧Cg m (a*Qc a m) 1:=by
 unfold Qc;rw [dif_pos h];exact Classical.choose_spec h
theorem MW{a m x y:Int}(hx0:0≤x)(hx:x< m)(h:Cg m (a*x) 1)(hy0:0≤y)(hy:y< m)(k:Cg m (a*y) 1):x=y:=by
 refine Cg.eq (m:=m) ?_ hx0 hx hy0 hy;have e1:Cg m (x*(a*y)) x:=(k.mul_left x).trans (Cg.of_eq (Int.mul_one x));have e2:Cg m (y*(a*x)) y:=(h.mul_left y).trans (Cg.of_eq (Int.mul_one y));exact e1.symm.trans ((Cg.of_eq (by rw [←Int.mul_assoc, ←Int.mul_assoc,Int.mul_comm x a,Int.mul_comm y a,Int.mul_assoc,Int.mul_assoc,Int.mul_comm x y])).trans e2)
theorem Ju{a m x:Int}(hx0:0≤x)(hx:x< m)(h:Cg m (a*x) 1):Qc a m=x:=by
 have s:=QT ⟨x,hx0,hx,h⟩;exact MW s.1 s.2.1 s.2.2 hx0 hx h
structure YC (a m r s x y:Int):Prop where
 fst:Cg m (a*x) r
 snd:Cg m (a*y) s
 dvd: ∀d:Int,(d ∣ r∧d ∣ s)→(d ∣ a∧d ∣ m)
theorem TO{d a m:Int}(h:d ∣ a%m)(k:d ∣ m):d ∣ a:=by
 rw [←Int.mul_ediv_add_emod a m];exact Int.dvd_add (Int.dvd_trans k (Int.dvd_mul_right _ _)) h
theorem YC.start(a m:Int):YC a m m (a%m) 0 (1%m):=by
 refine ⟨?_, ?_,fun d h=>⟨TO h.2 h.1,h.1⟩⟩
 ·rw [Int.mul_zero];exact (Cg.of_dvd (by rw [Int.sub_zero];exact Int.dvd_refl m)).symm
 ·exact (((Cg.mod m 1).mul_left a).trans (Cg.of_eq (Int.mul_one a))).trans (Cg.mod m a).symm
theorem YC.next{a m r s x y z:Int}(h:YC a m r s x y)(hz:Cg m z (x - r / s*y)):YC a m s (r%s) y z:=by
 refine ⟨h.snd, ?_,fun d k=>h.dvd d ⟨TO k.2 k.1,k.1⟩⟩;have e:=Int.mul_ediv_add_emod r s;have e1:r%s=r - r / s*s:=by rw [Int.mul_comm (r / s)];omega
 rw [e1];refine (hz.mul_left a).trans ?_;rw [Int.mul_sub];refine h.fst.sub ?_;rw [←Int.mul_assoc,Int.mul_comm a,Int.mul_assoc];exact h.snd.mul_left _
theorem YC.yes{a m x y:Int}(h:YC a m 1 0 x y)(hx0:0≤x)(hx:x< m):yi a m∧x=Qc a m:=
 ⟨⟨x,hx0,hx,h.fst⟩,(Ju hx0 hx h.fst).symm⟩
theorem YC.no{a m r x y:Int}(h:YC a m r 0 x y)(h0:0< r)(h1:r≠1): ¬yi a m:=by
 rintro ⟨z,_,_,hz⟩;obtain ⟨d1,d2⟩:=h.dvd r ⟨Int.dvd_refl r,Int.dvd_zero r⟩;have k:=Int.dvd_trans d2 hz.dvd;have k1:r ∣ a*z:=Int.dvd_trans d1 (Int.dvd_mul_right a z);have k2:r ∣ 1:=by
  have:=Int.dvd_sub k1 k
  rwa [show a*z - (a*z - 1)=1 by omega] at this
 have:=Int.le_of_dvd (by decide) k2
 omega
end
section
open Go
structure Pv where
 p:Value→World→Prop
 st: ∀{v w w'},p v w→w.grownBy w' none→p v w'
def Pv.any:Pv:=⟨fun _ _=>True,fun _ _=>trivial⟩
def Pv.eq(u:Value):Pv:=⟨fun v _=>v=u,fun h _=>h⟩
def Pv.sl{α:Type}(E:Enc α)(X:Nat→Prop)(xs:List α):Pv:=⟨fun v w=>Sl E X w v xs,fun h hg=>h.kept hg⟩
section
variable {P:Program} {ops:Array Oper} {Q:Exit→Act→World→Prop} {n:Nat} {a0:Act} {w0:World}
def zY(ops:Array Oper)(j:Nat):Option Tmp:=(ops[j]?).bind (·.dst)
def MU(ops:Array Oper)(n i:Nat)(t:Tmp):Bool:=(List.range n).all fun j=>zY ops j !=some t||Region.waitsFor .any ops j i||j==i
def yo(ops:Array Oper)(i:Nat)(js:List (Nat×Tmp)):Bool:=js.all fun x=>zY ops x.1==some x.2 && Region.waitsFor .any ops i x.1
def yf(ops:Array Oper)(n i:Nat)(js:List (Nat×Tmp)):Bool:=((ops[i]?).map fun o=>(o.looksAt ops).all fun t=>js.any (·.2==t)||MU ops n i t).getD false
def yt(V:Pv)(dst:Option Tmp)(ds:List Deferred)(w:World):Exit→Act→World→Prop:=fun e a' w'=>e= .normal∧a'.defers=ds∧V.p (match dst with|some d=>a'.eval (.tmp d)|none=>undef) w'∧w.grownBy w' none
def Ask(P:Program)(ops:Array Oper)(Vs:List Pv)(Qt:Exit→Act→World→Prop)(o:Oper)(w:World):List (Nat×Tmp)→Act→Prop
 | [],a=>wpList P ops Qt [o] a w
 |(j,d)::js,a=> ∀x,(Vs.getD j Pv.any).p x w→Ask P ops Vs Qt o w js (a.put (some d) x)
def Od(P:Program)(ops:Array Oper)(n:Nat)(a0:Act)(w0:World)(F:List Pv→Prop):List Pv→List Oper→Prop
 |Vs, []=>F Vs
 |Vs,o::os=> ∃(V:Pv) (js:List (Nat×Tmp)),(yo ops Vs.length js && yf ops n Vs.length js)=true∧(∀w,w0.grownBy w none→Ask P ops Vs (yt V o.dst a0.defers w) o w js a0)∧Od P ops n a0 w0 F (Vs++ [V]) os
def IH(G:Act→World→Prop)(w:World):List Pv→List Oper→Act→Prop
 |V::Vs,o::os,a=> ∀x,V.p x w→IH G w Vs os (a.put o.dst x)
 |_,_,a=>G a w
def av(ops:Array Oper)(i:Nat):Nat→Nat→Bool
 |0,k=>k !=i
 |f+1,k=>k !=i && ((ops[k]?).map (·.after.all fun e=> !Region.binds .any e||av ops i f e.on)).getD false
def Mv(ops:Array Oper)(n:Nat):Bool:=
 (List.range ops.size).all (fun j=>decide (j< n)||(List.range n).all fun i=> !av ops i n j) && Region.seqB .any ops (ops.size - n) n (Array.replicate n true++Array.replicate (ops.size - n) false)
def Cy(ops:Array Oper)(n:Nat):Bool:=(List.range n).all fun i=>((ops[i]?).map (·.after.all fun e=> !Region.binds .any e||decide (e.on< i))).getD false
def JX(ops:Array Oper)(n sz:Nat):Bool:=(List.range n).all fun i=>match zY ops i with|none=>true|some d=>decide (d< sz) && (List.range n).all fun j=>j==i||zY ops j !=some d
def Yd(ops:Array Oper)(n sz:Nat):Bool:=Region.noSelect ops && decide (n≤ops.size) && Mv ops n && Cy ops n && JX ops n sz
theorem YD(a:Act)(dst:Option Tmp)(v:Value):(a.put dst v).tmps.size=a.tmps.size:=by
 cases dst<;>simp [Act.put]
theorem yN(a:Act)(dst:Option Tmp)(v:Value):(a.put dst v).defers=a.defers:=by
 cases dst<;>rfl
theorem Xv(a:Act)(d t:Tmp)(v:Value)(h:d≠t):(a.put (some d) v).tmps[t]? =a.tmps[t]? :=by
 simp [Act.put,Array.getElem?_setIfInBounds_ne h]
theorem Yz(a b:Act)(t:Tmp)(h:a.tmps[t]? =b.tmps[t]?):a.eval (.tmp t)=b.eval (.tmp t):=by
 simp [Act.eval,Array.getD_eq_getD_getElem?,h]
theorem Ee(a b:Act)(t:Tmp)(hs:a.tmps.size=b.tmps.size):(a.put (some t) (b.eval (.tmp t))).tmps[t]? =b.tmps[t]? :=by
 by_cases h:t< a.tmps.size
 ·have h':t< b.tmps.size:=hs ▸ h;simp [Act.put,Act.eval,Array.getD_eq_getD_getElem?,h,h']
 ·have h': ¬t< b.tmps.size:=hs ▸ h;simp [Act.put,h,h']
def Oa(b:Act)(ds:List (Option Tmp))(a:Act):Act:=ds.foldl (fun a d=>a.put d (match d with|some d=>b.eval (.tmp d)|none=>undef)) a
theorem ZP(b:Act): ∀(ds:List (Option Tmp)) (a:Act),(Oa b ds a).tmps.size=a.tmps.size
 | [],_=>rfl
 |_::ds,_=>(ZP b ds _).trans (YD _ _ _)
theorem yn(b:Act): ∀(ds:List (Option Tmp)) (a:Act),(Oa b ds a).defers=a.defers
 | [],_=>rfl
 |_::ds,_=>(yn b ds _).trans (yN _ _ _)
theorem Zn(b:Act)(t:Tmp): ∀(ds:List (Option Tmp)) (a:Act),a.tmps.size=b.tmps.size→(some t∈ds∨a.tmps[t]? =b.tmps[t]?)→(Oa b ds a).tmps[t]? =b.tmps[t]?
 | [],a,_,h=>h.resolve_left (by simp)
 |d::ds,a,hs,h=>by
  refine Zn b t ds _ ((YD _ _ _).trans hs) ?_;cases d with
  |none=>exact h.imp (fun h=>by simpa using h) id
  |some d=>
   by_cases e:d=t
   ·subst e;exact .inr (Ee a b d hs)
   ·refine h.imp (fun h=> ?_) (fun h=>(Xv a d t _ e).trans h);rcases List.mem_cons.1 h with h|h
    ·injection h with h;exact absurd h.symm e
    ·exact h
theorem Tb{a b:Act}(h: ∀t:Nat,a.tmps[t]? =b.tmps[t]?)(hd:a.defers=b.defers):a=b:=by
 obtain ⟨t1,d1⟩:=a;obtain ⟨t2,d2⟩:=b;obtain rfl:d1=d2:=hd;obtain rfl:t1=t2:=Array.ext_getElem? h;rfl
theorem Ask.all{Vs:List Pv}{Qt:Exit→Act→World→Prop}{o:Oper}{w:World}{b:Act}: ∀{js:List (Nat×Tmp)} {a:Act},(∀x:Nat×Tmp,x∈js→(Vs.getD x.1 Pv.any).p (b.eval (.tmp x.2)) w)→Ask P ops Vs Qt o w js a→wpList P ops Qt [o] (Oa b (js.map fun x=>some x.2) a) w
 | [],_,_,h=>h
 |(j,d)::js,a,hx,h=>Ask.all (js:=js) (fun x hm=>hx x (mCm _ hm)) (h _ (hx (j,d) (by simp)))
theorem IH.all{G:Act→World→Prop}{w:World}{b:Act}: ∀{Vs:List Pv} {os:List Oper} {a:Act},Vs.length=os.length→(∀(k:Nat) (V:Pv) (o:Oper),Vs[k]? =some V→os[k]? =some o→V.p (match o.dst with|some d=>b.eval (.tmp d)|none=>undef) w)→IH G w Vs os a→G (Oa b (os.map (·.dst)) a) w
 | [], [],_,_,_,h=>h
 |V::Vs,o::os,a,hl,hx,h=>IH.all (Vs:=Vs) (os:=os) (by simpa using hl) (fun k V o hv ho=>hx (k+1) V o (by simpa using hv) (by simpa using ho)) (h _ (hx 0 V o rfl rfl))
 | [],_::_,_,hl,_,_=>by simp at hl
 |_::_, [],_,hl,_,_=>by simp at hl
theorem Od.out{F:List Pv→Prop}: ∀{os:List Oper} {Vs:List Pv},Od P ops n a0 w0 F Vs os→ ∃Ws:List Pv,Ws.length=os.length∧F (Vs++Ws)∧ ∀k o,os[k]? =some o→ ∃V js,Ws[k]? =some V∧(yo ops (Vs.length+k) js && yf ops n (Vs.length+k) js)=true∧ ∀w,w0.grownBy w none→Ask P ops ((Vs++Ws).take (Vs.length+k)) (yt V o.dst a0.defers w) o w js a0
 | [],Vs,h=>⟨[],rfl,by rw [List.append_nil];exact h,fun k o hk=>by simp at hk⟩
 |o::os,Vs,⟨V,js,hb,hA,hM⟩=>by
  obtain ⟨Ws,hl,hF,hk⟩:=Od.out hM;refine ⟨V::Ws,by simp [hl],by simpa using hF,fun k o' ho=> ?_⟩;cases k with
  |zero=>
   obtain rfl:o=o':=by simpa using ho
   exact ⟨V,js,rfl,hb,fun w hw=>by simpa using hA w hw⟩
  |succ k=>
   obtain ⟨V',js',h1,h2,h3⟩:=hk k o' (by simpa using ho);refine ⟨V',js',by simpa using h1, ?_,fun w hw=> ?_⟩
   ·simpa [Nat.add_assoc,Nat.add_comm 1 k] using h2
   ·have:=h3 w hw
    simpa [Nat.add_assoc,Nat.add_comm 1 k] using this
theorem Od.weak{F G:List Pv→Prop}: ∀{os:List Oper} {Vs:List Pv},Od P ops n a0 w0 F Vs os→(∀Ws,Ws.length=Vs.length+os.length→F Ws→G Ws)→Od P ops n a0 w0 G Vs os
 | [],Vs,h,hg=>hg Vs (by simp) h
 |o::os,Vs,⟨V,js,hb,hA,hM⟩,hg=>⟨V,js,hb,hA,Od.weak hM fun Ws hW=>hg Ws (by simp at hW ⊢;omega)⟩
def Rb(dst:Option Tmp)(a:Act):Value:=match dst with|some d=>a.eval (.tmp d)|none=>undef
structure Cw (ops:Array Oper) (n:Nat) (a0:Act) (w0:World) (Vs:List Pv) (D:Array Bool) (a:Act) (w:World):Prop where
 head:HeadInv .any ops n D
 grown:w0.grownBy w none
 tsize:a.tmps.size=a0.tmps.size
 defers:a.defers=a0.defers
 rest: ∀t,(∀j,j< n→D.getD j false=true→zY ops j≠some t)→a.tmps[t]? =a0.tmps[t]?
 known: ∀j V,D.getD j false=true→Vs[j]? =some V→V.p (Rb (zY ops j) a) w
def cnt(D:Array Bool):Nat→Nat
 |0=>0
 |k+1=>cnt D k+if D.getD k false then 0 else 1
theorem Vp{D:Array Bool}{i:Nat}: ∀k,(k≤i→cnt (D.setIfInBounds i true) k=cnt D k)∧(i< k→D.getD i true=false→cnt (D.setIfInBounds i true) k+1=cnt D k)
 |0=>⟨fun _=>rfl,fun h=>by omega⟩
 |k+1=>by
  obtain ⟨h1,h2⟩:=Vp (D:=D) (i:=i) k;refine ⟨fun h=> ?_,fun h hf=> ?_⟩
  ·simp only [cnt];rw [h1 (by omega),getD_set_ne false (by omega)]
  ·simp only [cnt];by_cases e:i=k
   ·subst e;have hlt:i< D.size:=by
     rcases Nat.lt_or_ge i D.size with h'|h'
     ·exact h'
     ·simp [Array.getElem?_eq_none h'] at hf
    rw [h1 (nRf _),getD_both hf];simp [hlt]
   ·have:=h2 (by omega) hf
    rw [getD_set_ne false e];omega
theorem xv{D:Array Bool}: ∀{k},cnt D k=0→ ∀i,i< k→D.getD i false=true
 |0,_,i,h=>by omega
 |k+1,h,i,hi=>by
  simp only [cnt] at h;by_cases e:i=k
  ·subst e;by_cases hd:D.getD i false=true
   ·exact hd
   ·simp [hd] at h
  ·exact xv (k:=k) (by omega) i (by omega)
theorem ZU(m:Nat): ∀k,cnt (Array.replicate m false) k=k
 |0=>rfl
 |k+1=>by simp only [cnt,ZU m k,getD_replicate_false];rfl
theorem PF{D:Array Bool}{i:Nat}(hcl: ∀j oj,ops[j]? =some oj→D.getD j false=true→ ∀e∈oj.after,Region.binds .any e=true→D.getD e.on false=true)(hsz:D.size=ops.size)(hi:D.getD i false=false): ∀f k,D.getD k false=true→av ops i f k=true
 |0,k,hk=>by
  simp only [av,bne_iff_ne];rintro rfl;rw [hi] at hk;cases hk
 |f+1,k,hk=>by
  have hlt:k< ops.size:=by
   rcases Nat.lt_or_ge k D.size with h'|h'
   ·omega
   ·simp [Array.getElem?_eq_none h'] at hk
  have ho:ops[k]? =some ops[k]:=Array.getElem?_eq_getElem hlt;simp only [av,ho,Option.map_some,Option.getD_some,Bool.and_eq_true,bne_iff_ne];refine ⟨?_, ?_⟩
  ·rintro rfl;rw [hi] at hk;cases hk
  ·rw [Array.all_eq_true_iff_forall_mem];intro e he;by_cases hb:Region.binds .any e=true
   ·simp [hb,PF hcl hsz hi f e.on (hcl k _ ho hk e he hb)]
   ·simp [hb]
theorem zg{n:Nat}{p:Nat→Bool}(h:(List.range n).all p=true){i:Nat}(hi:i< n):p i=true:=List.all_eq_true.1 h i (List.mem_range.2 hi)
theorem OJ(dst:Option Tmp)(a:Act):(match dst with|some d=>a.eval (.tmp d)|none=>undef)=Rb dst a:=by cases dst<;>rfl
theorem Vw{V:Pv}{dst:Option Tmp}{ds:List Deferred}{w:World}: ¬LetsOut (yt V dst ds w):=by
 rintro ⟨a,w',e,_⟩;cases e
theorem Kf{V:Pv}{o:Oper}{a b:Act}{w:World}(hs: ∀cs b,o.op≠ .select cs b)(hd: ∀d,o.dst=some d→d< a.tmps.size)(hsz:b.tmps.size=a.tmps.size)(hlook: ∀t∈o.looksAt ops,b.tmps[t]? =a.tmps[t]?){i:Nat}(hi:ops[i]? =some o)
  (hdf:b.defers=a0.defers) (h:wpList P ops (yt V o.dst a0.defers w) [o] b w):wpOp P ops Q i (fun a' w'=> ∃v,a'=a.put o.dst v∧V.p (match o.dst with|some _=>v|none=>undef) w'∧w.grownBy w' none) a w:=by
 have hex:execOp b.eval o=execOp a.eval o:=execOp_congr o hs fun x hx=>by
  cases x with
  |tmp t=>exact Yz _ _ _ (hlook t (mAl _ (List.mem_filterMap.2 ⟨.tmp t,by simpa using hx,rfl⟩)))
  |_=>rfl
 have hwn:Region.wanted o (yielded ops b.tmps)=Region.wanted o (yielded ops a.tmps):=by
  unfold Region.wanted;cases hg:o.guard with
  |none=>rfl
  |some gw=>
   obtain ⟨g,want⟩:=gw;have hy:yielded ops b.tmps g=yielded ops a.tmps g:=by
    unfold yielded;cases ht:(ops[g]?).bind (·.dst) with
    |none=>rfl
    |some t=>simp only [Option.bind_some,hlook t (by simp [Oper.looksAt,hg,ht])]
   simp only [hy]
 have fin: ∀v w',yt V o.dst a0.defers w .normal (b.put o.dst v) w'→ ∃v',a.put o.dst v=a.put o.dst v'∧V.p (match o.dst with|some _=>v'|none=>undef) w'∧w.grownBy w' none:=by
  rintro v w' ⟨_,_,h1,h2⟩;refine ⟨v,rfl, ?_,h2⟩;cases hdd:o.dst with
  |none=>rw [hdd] at h1;exact h1
  |some d=>
   rw [hdd] at h1;have hlt:=hd d hdd
   have:(b.put (some d) v).eval (.tmp d)=v:=by simp [Act.put,Act.eval,Array.getD_eq_getD_getElem?,hsz,hlt]
   simp only [this] at h1;exact h1
 unfold wpOp;simp only [hi];simp only [wpList,hwn] at h;split
 ·rename_i hw;rw [if_pos hw] at h;rcases h with h|h
  ·left;unfold Oper.wp at h ⊢;rw [hex] at h;generalize (execOp a.eval o).run P w=r at *;cases r with
   |ok x w'=>
    cases x with
    |value v=>exact fin v w' h
    |skip=>exact fin undef w' h
    |enter f args=>
     refine Calls.mono h fun e w'' he=> ?_
     cases e with
     |returned u=>exact fin u w'' he
     |panicked c=>exact absurd he.1 (by simp)
     |outgrown=>exact absurd he Vw
    |row row args=>exact Rows.mono h fun u w'' he=>fin u w'' he
    |defer d=>
     obtain ⟨_,h1,_⟩:=h;have h1:(Act.put {b with defers:=d::b.defers} o.dst undef).defers=a0.defers:=h1;rw [yN, ←hdf] at h1;exact absurd (congrArg List.length h1) (by simp)
    |_=>exact h.elim
   |halt x w'=>
    cases x with
    |panic v=>exact absurd h.1 (by simp)
    |_=>exact h.elim
  ·exact absurd h.2 Vw
 ·rename_i hw;rw [if_neg hw] at h;exact fin undef w h
theorem QP{Vs:List Pv}{D:Array Bool}{a a':Act}{w w':World}{i:Nat}{o:Oper}{V:Pv}{v:Value}(inv:Cw ops n a0 w0 Vs D a w)(hd:JX ops n a0.tmps.size=true)(hi:i∈Region.ready .any ops D)(hin:i< n)(ho:ops[i]? =some o)(hV:Vs[i]? =some V)(hnl:Vs.length≤n)
  (ha:a'=a.put o.dst v) (hv:V.p (match o.dst with|some _=>v|none=>undef) w') (hg:w.grownBy w' none):Cw ops n a0 w0 Vs (D.setIfInBounds i true) a' w':=by
 subst ha;have hdi:zY ops i=o.dst:=by simp [zY,ho]
 have hun:D.getD i true=false:=(mem_ready.1 hi).1;have hlt:i< D.size:=by
  rcases Nat.lt_or_ge i D.size with h'|h'
  ·exact h'
  ·simp [Array.getElem?_eq_none h'] at hun
 refine ⟨inv.head.set hi hin,inv.grown.trans hg,(YD _ _ _).trans inv.tsize,(yN _ _ _).trans inv.defers,fun t ht=> ?_,fun j W hj hW=> ?_⟩
 ·have h1:o.dst≠some t:=fun e=>ht i hin (by simp [hlt]) (hdi.trans e)
  refine Eq.trans ?_ (inv.rest t fun j hj hD=>ht j hj (getD_set_true hD));cases hdd:o.dst with
  |none=>rfl
  |some d=>exact Xv _ _ _ _ (fun e=>h1 (by rw [hdd,e]))
 ·by_cases e:i=j
  ·subst e;obtain rfl:V=W:=Option.some.inj (hV.symm.trans hW);rw [hdi];cases hdd:o.dst with
   |none=>rw [hdd] at hv;exact hv
   |some d=>
    rw [hdd] at hv;have hds:=zg hd hin;rw [hdi,hdd] at hds;simp only [Bool.and_eq_true,decide_eq_true_eq] at hds
    have:(a.put (some d) v).eval (.tmp d)=v:=by simp [Act.put,Act.eval,Array.getD_eq_getD_getElem?,inv.tsize,hds.1]
    show V.p ((a.put (some d) v).eval (.tmp d)) w';rw [this];exact hv
  ·have hjn:j< n:=by have:=(List.getElem?_eq_some_iff.1 hW).1;omega
   rw [getD_set_ne false e] at hj;have h1:=W.st (inv.known j W hj hW) hg;cases hdj:zY ops j with
   |none=>rw [hdj] at h1;exact h1
   |some dj=>
    rw [hdj] at h1;have h1:W.p (a.eval (.tmp dj)) w':=h1;show W.p ((a.put o.dst v).eval (.tmp dj)) w';cases hdd:o.dst with
    |none=>exact h1
    |some d=>
     have hds:=zg hd hin;rw [hdi,hdd] at hds;simp only [Bool.and_eq_true,decide_eq_true_eq] at hds;have h2:=zg hds.2 hjn;simp only [Bool.or_eq_true,beq_iff_eq,bne_iff_ne,ne_eq] at h2;have h3:d≠dj:=fun e'=>(h2.resolve_left (fun e2=>e e2.symm)) (by rw [hdj,e'])
     rw [Yz _ a dj (Xv a d dj v h3)];exact h1
theorem Mn{l:List Oper}(n:Nat)(hB:Yd l.toArray n a0.tmps.size=true)
  (h:Od P l.toArray n a0 w0 (fun Vs=> ∀w,w0.grownBy w none→IH (fun a w=>wpList P l.toArray Q (l.drop n) a w) w Vs (l.take n) a0) [] (l.take n)):wpAny P .any l.toArray Q l.toArray.size (Array.replicate l.toArray.size false) a0 w0:=by
 simp only [Yd,Bool.and_eq_true,decide_eq_true_eq] at hB;obtain ⟨⟨⟨⟨q0,hn⟩,d0⟩,c0⟩,f0⟩:=hB;simp only [Mv,Bool.and_eq_true] at d0;obtain ⟨u0,p0⟩:=d0;obtain ⟨Vs,H0,hF,hO⟩:=Od.out h;rw [List.nil_append] at hF;simp only [List.nil_append,List.length_nil,Nat.zero_add] at hO;have Y0:n≤l.length:=by simpa using hn
 have L0:(l.take n).length=n:=by simp;omega
 have e0:Vs.length=n:=H0.trans L0;have G0:(l.drop n).length=l.toArray.size - n:=by simp
 have k0: ∀i o,i< n→l.toArray[i]? =some o→(l.take n)[i]? =some o:=fun i o hi ho=>by
  rw [List.getElem?_take,if_pos hi];simpa using ho
 have I0: ∀m D a w,Cw l.toArray n a0 w0 Vs D a w→cnt D n=m→wpAny P .any l.toArray Q (m+(l.toArray.size - n)) D a w:=by
  intro m;induction m with
  |zero=>
   intro D a w inv hc;have b0:=xv hc;have hD:D=Array.replicate n true++Array.replicate (l.toArray.size - n) false:=by
    have M0:=inv.head.size;refine Array.ext (by simp [M0];omega) fun i h1 h2=> ?_
    rw [Array.getElem_append];by_cases hi:i< n
    ·have:=b0 i hi
     simp [h1] at this;simp [hi,this]
    ·have:=inv.head.tail i (by omega) (by omega)
     simp [h1] at this;simp [hi,this]
   have hk: ∀(k:Nat) (V:Pv) (o:Oper),Vs[k]? =some V→(l.take n)[k]? =some o→V.p (match o.dst with|some d=>a.eval (.tmp d)|none=>undef) w:=by
    intro k V o hv ho;have B0:k< n:=by have:=(List.getElem?_eq_some_iff.1 hv).1;omega
    have h1:=inv.known k V (b0 k B0) hv;have h2:zY l.toArray k=o.dst:=by
     have:l[k]? =some o:=by rw [List.getElem?_take,if_pos B0] at ho;exact ho
     simp [zY,this]
    rw [h2] at h1;rw [OJ];exact h1
   have n0:=IH.all H0 hk (hF w inv.grown);have i0:Oa a ((l.take n).map (·.dst)) a0=a:=by
    refine Tb (fun t=>Zn a t _ _ inv.tsize.symm ?_) ((yn _ _ _).trans inv.defers.symm);by_cases ht:some t∈(l.take n).map (·.dst)
    ·exact .inl ht
    ·refine .inr (inv.rest t fun j hj _ e=>ht ?_).symm;have D0:j< l.length:=by omega
     have:l[j].dst=some t:=by simpa [zY,D0] using e
     exact List.mem_map.2 ⟨l[j],List.mem_iff_getElem?.2 ⟨j,by rw [List.getElem?_take,if_pos hj,List.getElem?_eq_getElem D0]⟩,this⟩
   rw [i0] at n0
   have:=wpAny_of_seq (md:= .any) (Q':=Q) (l.drop n) n D a w (fun j=>by simp [List.getElem?_drop]) (by rw [G0,hD];exact p0) n0
   rw [G0] at this
   rwa [Nat.zero_add]
  |succ m ih=>
   intro D a w inv hc;have g0: ∀i∈Region.ready .any l.toArray D,i< n:=by
    intro i hi;rcases Nat.lt_or_ge i n with h'|h'
    ·exact h'
    ·obtain ⟨hu,oi,A0,b0⟩:=mem_ready.1 hi;have Q0:i< l.toArray.size:=(Array.getElem?_eq_some_iff.1 A0).1;exfalso;obtain ⟨k,hk,s0⟩: ∃k,k< n∧D.getD k false=false:=by
      refine Classical.byContradiction fun O0=> ?_
      have: ∀k,k≤n→cnt D k=0:=by
       intro k;induction k with
       |zero=>intro _;rfl
       |succ k ihk=>
        intro hk;have h1:D.getD k false=true:=by
         refine Classical.byContradiction fun hx=>O0 ⟨k,by omega,by simpa using hx⟩
        simp only [cnt,h1,ihk (by omega)];rfl
      rw [this n (nRf _)] at hc;omega
     have hb:=zg u0 Q0;simp only [Bool.or_eq_true,decide_eq_true_eq] at hb;have hb:=zg (hb.resolve_left (by omega)) hk;simp only [Bool.not_eq_true'] at hb;have F0:i≠k:=by omega
     have:av l.toArray k n i=true:=by
      have V0:=fun f j hj=>PF (ops:=l.toArray) inv.head.closed inv.head.size s0 f j hj
      cases Z0:n with
      |zero=>simp [av,F0]
      |succ f=>
       simp only [av,A0,Option.map_some,Option.getD_some,Bool.and_eq_true,bne_iff_ne];refine ⟨F0, ?_⟩;rw [Array.all_eq_true_iff_forall_mem];intro e he;by_cases y0:Region.binds .any e=true
       ·simp [y0,V0 f e.on (b0 e he y0)]
       ·simp [y0]
     rw [hb] at this;cases this
   have P0:Region.ready .any l.toArray D≠ []:=by
    have S0: ∃k,k< n∧D.getD k false=false∧ ∀j,j< k→D.getD j false=true:=by
     have: ∀k,k≤n→(∃q,q< k∧D.getD q false=false∧ ∀j,j< q→D.getD j false=true)∨(cnt D k=0):=by
      intro k;induction k with
      |zero=>intro _;exact .inr rfl
      |succ k ihk=>
       intro hk;rcases ihk (by omega) with ⟨q,h1,h2⟩|h0
       ·exact .inl ⟨q,by omega,h2⟩
       ·cases hq:D.getD k false with
        |true=>right;simp only [cnt,hq,h0];rfl
        |false=>exact .inl ⟨k,by omega,hq,xv h0⟩
     rcases this n (nRf _) with ⟨q,h1,h2⟩|h0
     ·exact ⟨q,h1,h2⟩
     ·omega
    obtain ⟨k,hk,s0,v0⟩:=S0;have C0:k< l.toArray.size:=by omega
    have ho:l.toArray[k]? =some l.toArray[k]:=Array.getElem?_eq_getElem C0
    have:k∈Region.ready .any l.toArray D:=by
     refine mem_ready.2 ⟨getD_in (by rw [inv.head.size];exact C0) s0,_,ho,fun e he hb=>v0 _ ?_⟩;have ht:=zg c0 hk;simp only [ho,Option.map_some,Option.getD_some] at ht
     have:=Array.all_eq_true_iff_forall_mem.1 ht e he
     simpa [hb] using this
    intro e;rw [e] at this;cases this
   rw [show m+1+(l.toArray.size - n)=(m+(l.toArray.size - n))+1 by omega];refine ⟨fun e=>absurd e P0,fun i hi=> ?_⟩;have m0:=g0 i hi;obtain ⟨hu,o,ho,b0⟩:=mem_ready.1 hi;obtain ⟨V,js,hV,o0,z0⟩:=hO i o (k0 i o m0 ho);simp only [Bool.and_eq_true] at o0;obtain ⟨j0,l0⟩:=o0;have t0: ∀d,o.dst=some d→d< a.tmps.size:=by
    intro d hd
    have:=zg f0 m0
    have h2:zY l.toArray i=some d:=by simp only [zY,ho];exact hd
    rw [h2] at this;simp only [Bool.and_eq_true,decide_eq_true_eq] at this;rw [inv.tsize];exact this.1
   have R0: ∀x:Nat×Tmp,x∈js→zY l.toArray x.1=some x.2∧D.getD x.1 false=true∧x.1< i:=by
    intro x hx
    have:=List.all_eq_true.1 j0 x hx
    simp only [Bool.and_eq_true,beq_iff_eq] at this;obtain ⟨oj,r0,e,he,hb,i0⟩:=Region.waitsFor_spec this.2;obtain rfl:o=oj:=Option.some.inj (ho.symm.trans r0);have ht:=zg c0 m0;simp only [ho,Option.map_some,Option.getD_some] at ht;have ht:=Array.all_eq_true_iff_forall_mem.1 ht e he;simp only [hb,Bool.not_true,Bool.false_or,decide_eq_true_eq] at ht;exact ⟨this.1,by rw [←i0];exact b0 e he hb,by rw [←i0];exact ht⟩
   have hA:=z0 w inv.grown;have hW:=Ask.all (b:=a) (fun x hx=>by
    obtain ⟨h1,h2,h3⟩:=R0 x hx;have K0:x.1< Vs.length:=by omega
    have h4:Vs[x.1]? =some Vs[x.1]:=List.getElem?_eq_getElem K0;have h5:=inv.known x.1 _ h2 h4;rw [h1] at h5
    have:(Vs.take i).getD x.1 Pv.any=Vs[x.1]:=by
     rw [List.getD_eq_getElem?_getD,List.getElem?_take,if_pos h3,h4];rfl
    rw [this];exact h5) hA
   have N0:=Kf (Q:=Q) (ops:=l.toArray) (a0:=a0) (a:=a) (Region.noSelect_spec q0 i o · · ho) t0 ((ZP _ _ _).trans inv.tsize.symm) (fun t ht=>by
    refine Zn a t _ _ inv.tsize.symm ?_;have h1:(o.looksAt l.toArray).all (fun t=>js.any (·.2==t)||MU l.toArray n i t)=true:=by
     simpa only [yf,ho,Option.map_some,Option.getD_some] using l0
    have h2:=List.all_eq_true.1 h1 t ht;simp only [Bool.or_eq_true] at h2;rcases h2 with h2|h2
    ·left;obtain ⟨x,hx,J0⟩:=List.any_eq_true.1 h2;exact List.mem_map.2 ⟨x,hx,by rw [beq_iff_eq.1 J0]⟩
    ·right;refine (inv.rest t fun j hj hD e=> ?_).symm;have h3:=zg h2 hj;simp only [Bool.or_eq_true,bne_iff_ne,ne_eq,beq_iff_eq] at h3;rcases h3 with (h3|h3)|h3
     ·exact h3 e
     ·obtain ⟨oj,r0,e',T0,U0,i0⟩:=Region.waitsFor_spec h3
      have:=inv.head.closed j oj r0 hD e' T0 U0
      rw [i0,getD_both hu] at this;cases this
     ·subst h3;rw [getD_both hu] at hD;cases hD) ho (yn _ _ _) hW
   refine wpOp_mono (fun a' w' hk=> ?_) N0;obtain ⟨v,ha,hv,hg⟩:=hk;exact ih _ a' w' (QP inv f0 hi m0 ho hV (by omega) ha hv hg) (by have:=(Vp (D:=D) (i:=i) n).2 m0 hu;omega)
 have h0:=I0 n (Array.replicate l.toArray.size false) a0 w0 ⟨⟨by simp,(fun j oj _ hD=>by rw [getD_replicate_false] at hD;cases hD),fun t _ ht=>by simp only [List.size_toArray] at ht ⊢;simp [ht]⟩,gRr w0 none,rfl,rfl,fun _ _=>rfl,(fun j V hD=>by rw [getD_replicate_false] at hD;cases hD)⟩ (ZU _ n)
 rwa [show n+(l.toArray.size - n)=l.toArray.size by omega] at h0
theorem zr{V:Pv}{ds:List Deferred}{o:Oper}{a:Act}{w:World}(hw:Region.wanted o (yielded ops a.tmps)=true)
  (h: ∀K:Act→World→Prop,(∀a' w',a'.defers=ds→V.p (match o.dst with|some d=>a'.eval (.tmp d)|none=>undef) w'→w.grownBy w' none→K a' w')→o.wp P a w K (yt V o.dst ds w)):wpList P ops (yt V o.dst ds w) [o] a w:=by
 unfold wpList;rw [if_pos hw];exact .inl (h _ fun a' w' h1 h2 h3=>⟨rfl,h1,h2,h3⟩)
theorem zc{V:Pv}{ds:List Deferred}{o:Oper}{a:Act}{w:World}(hw:Region.wanted o (yielded ops a.tmps)=false)(h1:(a.put o.dst undef).defers=ds)(h2:V.p (match o.dst with|some d=>(a.put o.dst undef).eval (.tmp d)|none=>undef) w):wpList P ops (yt V o.dst ds w) [o] a w:=by
 unfold wpList;rw [if_neg (by rw [hw];simp)];exact ⟨rfl,h1,h2,gRr w none⟩
def RZ(P:Program)(ops:Array Oper)(n:Nat)(a0:Act)(w0:World)(F:List Pv→List Oper→Prop):Nat→List Pv→List Oper→Prop
 |0,Vs,os=>F Vs os
 |_+1,_, []=>False
 |k+1,Vs,o::os=> ∃(V:Pv) (js:List (Nat×Tmp)),(yo ops Vs.length js && yf ops n Vs.length js)=true∧(∀w,w0.grownBy w none→Ask P ops Vs (yt V o.dst a0.defers w) o w js a0)∧RZ P ops n a0 w0 F k (Vs++ [V]) os
def IG(P:Program)(ops:Array Oper)(Q:Exit→Act→World→Prop)(w:World):List Pv→List Oper→Act→Prop
 |V::Vs,o::os,a=> ∀x,V.p x w→IG P ops Q w Vs os (a.put o.dst x)
 |_,os,a=>wpList P ops Q os a w
theorem IG.cut{w:World}: ∀{Vs:List Pv} {os:List Oper} {a:Act},Vs.length≤os.length→IG P ops Q w Vs os a→IH (fun a w=>wpList P ops Q (os.drop Vs.length) a w) w Vs (os.take Vs.length) a
 | [],os,a,_,h=>by
  have h:wpList P ops Q os a w:=by cases os<;>exact h
  exact h
 |V::Vs, [],a,hl,_=>by simp at hl
 |V::Vs,o::os,a,hl,h=>fun x hx=>IG.cut (Vs:=Vs) (os:=os) (by simpa using hl) (h x hx)
theorem RZ.cut{F:List Pv→List Oper→Prop}: ∀{k:Nat} {Vs:List Pv} {os:List Oper},RZ P ops n a0 w0 F k Vs os→Od P ops n a0 w0 (fun Ws=>F Ws (os.drop k)) Vs (os.take k)∧k≤os.length
 |0,Vs,os,h=>⟨by cases os<;>exact h,Nat.zero_le _⟩
 |k+1,Vs, [],h=>h.elim
 |k+1,Vs,o::os,⟨V,js,hc,hA,h⟩=>⟨⟨V,js,hc,hA,(RZ.cut h).1⟩,by simpa using (RZ.cut h).2⟩
theorem Og{l:List Oper}(n:Nat)(hB:Yd l.toArray n a0.tmps.size=true)
  (h:RZ P l.toArray n a0 w0 (fun Vs _=> ∀w,w0.grownBy w none→IG P l.toArray Q w Vs l a0) n [] l):wpAny P .any l.toArray Q l.toArray.size (Array.replicate l.toArray.size false) a0 w0:=by
 obtain ⟨hM,hn⟩:=RZ.cut h;obtain ⟨Vs,hVl,hF,hO⟩:=Od.out hM;have hVn:Vs.length=n:=by rw [hVl];simp;omega
 refine Mn n hB (Od.weak hM fun Ws hW hF w hw=> ?_)
 have:=IG.cut (by rw [hW];simp;omega) (hF w hw)
 rw [show Ws.length=n by rw [hW];simp;omega] at this;exact this
def zm(P:Program)(ops:Array Oper)(n:Nat)(a0:Act)(w0:World)(F:List Pv→Prop):Nat→List Pv→List Oper→Prop
 |0,Rs,_=>F Rs.reverse
 |_+1,_, []=>False
 |k+1,Rs,o::os=> ∃(V:Pv) (js:List (Nat×Tmp)),(yo ops Rs.length js && yf ops n Rs.length js)=true∧(∀w,w0.grownBy w none→Ask P ops Rs.reverse (yt V o.dst a0.defers w) o w js a0)∧zm P ops n a0 w0 F k (V::Rs) os
theorem zm.step{F:List Pv→Prop}{k:Nat}{Rs:List Pv}{o:Oper}{os:List Oper}(V:Pv)(js:List (Nat×Tmp))(hc:(yo ops Rs.length js && yf ops n Rs.length js)=true)(hA: ∀w,w0.grownBy w none→Ask P ops Rs.reverse (yt V o.dst a0.defers w) o w js a0)(h:zm P ops n a0 w0 F k (V::Rs) os):zm P ops n a0 w0 F (k+1) Rs (o::os):=⟨V,js,hc,hA,h⟩
theorem zm.up{F:List Pv→Prop}: ∀{k:Nat} {Rs:List Pv} {os:List Oper},zm P ops n a0 w0 F k Rs os→RZ P ops n a0 w0 (fun Vs _=>F Vs) k Rs.reverse os
 |0,_,_,h=>h
 |_+1,_, [],h=>h.elim
 |k+1,Rs,o::os,⟨V,js,hc,hA,h⟩=>⟨V,js,by rw [List.length_reverse];exact hc,hA,by have:=zm.up h;rwa [List.reverse_cons] at this⟩
theorem Uc{l:List Oper}(n:Nat)(hB:Yd l.toArray n a0.tmps.size=true)
  (h:zm P l.toArray n a0 w0 (fun Vs=> ∀w,w0.grownBy w none→IG P l.toArray Q w Vs l a0) n [] l):wpAny P .any l.toArray Q l.toArray.size (Array.replicate l.toArray.size false) a0 w0:=
 Og n hB (zm.up h)
theorem Tg{l:List Oper}{id:Nat}(n:Nat)(hm:P.follows .mixedOrders=true)(hB:Yd l.toArray n a0.tmps.size=true)
  (h:zm P l.toArray n a0 w0.drew (fun Vs=> ∀w,w0.drew.grownBy w none→IG P l.toArray Q w Vs l a0) n [] l):(Code.region id l.toArray true).wp P Q a0 w0:=
 wp_region_any hm (Uc n hB h)
end
def TT:Nat→Prop:=fun _=>True
def Ff{α:Type}(E:Enc α)(w:World):List (List Value)→List α→Prop
 | [], []=>True
 |c::cs,x::xs=>E.rep TT w c x∧Ff E w cs xs
 |_,_=>False
theorem Ff.out{α:Type}{E:Enc α}{w:World}: ∀{css:List (List Value)} {xs:List α},Ff E w css xs→css.length=xs.length∧ ∀i (h:i< xs.length) (h':i< css.length),E.rep TT w css[i] xs[i]
 | [], [],_=>⟨rfl,fun i h=>by simp at h⟩
 |c::cs,x::xs,⟨h1,h2⟩=>by
  obtain ⟨k1,k2⟩:=Ff.out h2;refine ⟨by simp [k1],fun i h h'=> ?_⟩;cases i with
  |zero=>exact h1
  |succ i=>exact k2 i (by simpa using h) (by simpa using h')
theorem Ff.kept{α:Type}{E:Enc α}{w w':World}(hg:w.grownBy w' none): ∀{css:List (List Value)} {xs:List α},Ff E w css xs→Ff E w' css xs
 | [], [],_=>trivial
 |_::_,_::_,⟨h1,h2⟩=>⟨E.keep h1 hg (by simp),Ff.kept hg h2⟩
theorem Sl.build{α:Type}{E:Enc α}{w:World}{t:TypeId}{cs:Array Value}{xs:List α}{n:Nat}(css:List (List Value))(hn:xs.length=n)(hr:Ff E w css xs)(hc:cs.toList=css.flatten)(hb:n≤9223372036854775807):Sl E TT (w.alloc (.cells cs t)) (.slice (some ⟨w.heap.size,0,none⟩) n n) xs:=by
 subst hn;obtain ⟨h1,h2⟩:=(hr.kept (gAl w (.cells cs t) none)).out;exact Sl.block (Bk.new w t cs) trivial css h1 h2 hc (nRf _) hb
section
variable {P:Program} {ops:Array Oper} {n:Nat} {a0:Act} {w0:World} {F:List Pv→Prop} {k:Nat} {Rs:List Pv} {o:Oper} {os:List Oper}
theorem pD{V G:Value→Prop}(h: ∀x,G x): ∀x,V x→G x:=fun x _=>h x
theorem pQ{v:Value}{G:Value→Prop}(h:G v): ∀x,x=v→G x:=fun _ e=>e ▸ h
theorem mV(V:Pv)(js:List (Nat×Tmp))(hA: ∀w,w0.grownBy w none→Ask P ops Rs.reverse (yt V o.dst a0.defers w) o w js a0)(h:zm P ops n a0 w0 F k (V::Rs) os)(hc:(yo ops Rs.length js && yf ops n Rs.length js)=true:=by kernel_rfl):zm P ops n a0 w0 F (k+1) Rs (o::os):=⟨V,js,hc,hA,h⟩
theorem mS(u:Value)(js:List (Nat×Tmp))(hA: ∀w,w0.grownBy w none→Ask P ops Rs.reverse (yt (Pv.eq u) o.dst a0.defers w) o w js a0)(h:zm P ops n a0 w0 F k (Pv.eq u::Rs) os)(hc:(yo ops Rs.length js && yf ops n Rs.length js)=true:=by kernel_rfl):zm P ops n a0 w0 F (k+1) Rs (o::os):=⟨_,js,hc,hA,h⟩
theorem kD{V:Pv}{ds:List Deferred}{a:Act}{w:World}(h: ∀K:Act→World→Prop,(∀a' w',a'.defers=ds→V.p (match o.dst with|some d=>a'.eval (.tmp d)|none=>undef) w'→w.grownBy w' none→K a' w')→o.wp P a w K (yt V o.dst ds w))(hw:Region.wanted o (yielded ops a.tmps)=true:=by rfl):wpList P ops (yt V o.dst ds w) [o] a w:=zr hw h
theorem kE{V:Pv}{ds:List Deferred}{a:Act}{w:World}(h: ∀K:Act→World→Prop,(∀a' w',a'.defers=ds→V.p (match o.dst with|some d=>a'.eval (.tmp d)|none=>undef) w'→w.grownBy w' none→K a' w')→o.wp P a w K (yt V o.dst ds w))(hw:Region.wanted o (yielded ops a.tmps)=true:=by kernel_rfl):wpList P ops (yt V o.dst ds w) [o] a w:=zr hw h
theorem kR{u:Value}{ds:List Deferred}{a:Act}{w:World}(h: ∀K:Act→World→Prop,(∀a',a'.defers=ds→(match o.dst with|some d=>a'.eval (.tmp d)|none=>undef)=u→K a' w)→o.wp P a w K (yt (Pv.eq u) o.dst ds w))(hw:Region.wanted o (yielded ops a.tmps)=true:=by kernel_rfl):wpList P ops (yt (Pv.eq u) o.dst ds w) [o] a w:=zr hw fun K hK=>h K fun a' h1 h2=>hK a' w h1 h2 (gRr w none)
end
section
variable {P:Program} {Q:Exit→Act→World→Prop} {a0:Act} {w0:World}
theorem ZF{l:List Oper}{id:Nat}(n:Nat)(h:zm P l.toArray n a0 w0.drew (fun Vs=> ∀w,w0.drew.grownBy w none→IG P l.toArray Q w Vs l a0) n [] l)(hm:P.follows .mixedOrders=true:=by kernel_rfl)(hB:Yd l.toArray n a0.tmps.size=true:=by kernel_rfl):(Code.region id l.toArray true).wp P Q a0 w0:=Tg n hm hB h
end
section
variable {P:Program} {ops:Array Oper} {n:Nat} {a0:Act} {w0:World} {F:List Pv→Prop} {k:Nat} {Rs:List Pv} {o:Oper} {os:List Oper}
theorem mQ0(u:Value)(hA: ∀w,w0.grownBy w none→ ∀K:Act→World→Prop,(∀a',a'.defers=a0.defers→(match o.dst with|some d=>a'.eval (.tmp d)|none=>undef)=u→K a' w)→o.wp P a0 w K (yt (Pv.eq u) o.dst a0.defers w))(h:zm P ops n a0 w0 F k (Pv.eq u::Rs) os)(hc:(yo ops Rs.length [] && yf ops n Rs.length [])=true:=by kernel_rfl)(hw:Region.wanted o (yielded ops a0.tmps)=true:=by rfl):zm P ops n a0 w0 F (k+1) Rs (o::os):=⟨_, [],hc,fun w hw0=>by
 exact zr hw fun K hK=>hA w hw0 K fun a' h1 h2=>hK a' w h1 h2 (gRr w none),h⟩
theorem mN0(V:Pv)(hA: ∀w,w0.grownBy w none→ ∀K:Act→World→Prop,(∀a' w',a'.defers=a0.defers→V.p (match o.dst with|some d=>a'.eval (.tmp d)|none=>undef) w'→w.grownBy w' none→K a' w')→o.wp P a0 w K (yt V o.dst a0.defers w))(h:zm P ops n a0 w0 F k (V::Rs) os)(hc:(yo ops Rs.length [] && yf ops n Rs.length [])=true:=by kernel_rfl)(hw:Region.wanted o (yielded ops a0.tmps)=true:=by rfl):zm P ops n a0 w0 F (k+1) Rs (o::os):=⟨_, [],hc,fun w hw0=>by
 exact zr hw fun K hK=>hA w hw0 K hK,h⟩
theorem mQ1(u:Value)(j0:Nat)(d0:Tmp){v0:Value}(hA: ∀w,w0.grownBy w none→ ∀K:Act→World→Prop,(∀a',a'.defers=a0.defers→(match o.dst with|some d=>a'.eval (.tmp d)|none=>undef)=u→K a' w)→o.wp P (a0.put (some d0) v0) w K (yt (Pv.eq u) o.dst a0.defers w))(h:zm P ops n a0 w0 F k (Pv.eq u::Rs) os)(hv0:Rs.reverse.getD j0 Pv.any=Pv.eq v0:=by rfl)(hc:(yo ops Rs.length [(j0,d0)] && yf ops n Rs.length [(j0,d0)])=true:=by kernel_rfl)(hw:Region.wanted o (yielded ops (a0.put (some d0) v0).tmps)=true:=by rfl):zm P ops n a0 w0 F (k+1) Rs (o::os):=⟨_, [(j0,d0)],hc,fun w hw0 x0 h0=>by
 rw [hv0] at h0;obtain rfl:x0=v0:=h0;exact zr hw fun K hK=>hA w hw0 K fun a' h1 h2=>hK a' w h1 h2 (gRr w none),h⟩
theorem mN1(V:Pv)(j0:Nat)(d0:Tmp){v0:Value}(hA: ∀w,w0.grownBy w none→ ∀K:Act→World→Prop,(∀a' w',a'.defers=a0.defers→V.p (match o.dst with|some d=>a'.eval (.tmp d)|none=>undef) w'→w.grownBy w' none→K a' w')→o.wp P (a0.put (some d0) v0) w K (yt V o.dst a0.defers w))(h:zm P ops n a0 w0 F k (V::Rs) os)(hv0:Rs.reverse.getD j0 Pv.any=Pv.eq v0:=by rfl)(hc:(yo ops Rs.length [(j0,d0)] && yf ops n Rs.length [(j0,d0)])=true:=by kernel_rfl)(hw:Region.wanted o (yielded ops (a0.put (some d0) v0).tmps)=true:=by rfl):zm P ops n a0 w0 F (k+1) Rs (o::os):=⟨_, [(j0,d0)],hc,fun w hw0 x0 h0=>by
 rw [hv0] at h0;obtain rfl:x0=v0:=h0;exact zr hw fun K hK=>hA w hw0 K hK,h⟩
theorem AV(u:Value)(j0:Nat)(d0:Tmp){v0:Value}(hA: ∀w,w0.grownBy w none→ ∀K:Act→World→Prop,(∀a',a'.defers=a0.defers→(match o.dst with|some d=>a'.eval (.tmp d)|none=>undef)=u→K a' w)→o.wp P (a0.put (some d0) v0) w K (yt (Pv.eq u) o.dst a0.defers w))(h:zm P ops n a0 w0 F k (Pv.eq u::Rs) os)(hv0:Rs.reverse.getD j0 Pv.any=Pv.eq v0:=by rfl)(hc:(yo ops Rs.length [(j0,d0)] && yf ops n Rs.length [(j0,d0)])=true:=by kernel_rfl)(hw:Region.wanted o (yielded ops (a0.put (some d0) v0).tmps)=true:=by kernel_rfl):zm P ops n a0 w0 F (k+1) Rs (o::os):=⟨_, [(j0,d0)],hc,fun w hw0 x0 h0=>by
 rw [hv0] at h0;obtain rfl:x0=v0:=h0;exact zr hw fun K hK=>hA w hw0 K fun a' h1 h2=>hK a' w h1 h2 (gRr w none),h⟩
theorem Gm(V:Pv)(j0:Nat)(d0:Tmp){v0:Value}(hA: ∀w,w0.grownBy w none→ ∀K:Act→World→Prop,(∀a' w',a'.defers=a0.defers→V.p (match o.dst with|some d=>a'.eval (.tmp d)|none=>undef) w'→w.grownBy w' none→K a' w')→o.wp P (a0.put (some d0) v0) w K (yt V o.dst a0.defers w))(h:zm P ops n a0 w0 F k (V::Rs) os)(hv0:Rs.reverse.getD j0 Pv.any=Pv.eq v0:=by rfl)(hc:(yo ops Rs.length [(j0,d0)] && yf ops n Rs.length [(j0,d0)])=true:=by kernel_rfl)(hw:Region.wanted o (yielded ops (a0.put (some d0) v0).tmps)=true:=by kernel_rfl):zm P ops n a0 w0 F (k+1) Rs (o::os):=⟨_, [(j0,d0)],hc,fun w hw0 x0 h0=>by
 rw [hv0] at h0;obtain rfl:x0=v0:=h0;exact zr hw fun K hK=>hA w hw0 K hK,h⟩
theorem mQ2(u:Value)(j0:Nat)(d0:Tmp)(j1:Nat)(d1:Tmp){v0 v1:Value}(hA: ∀w,w0.grownBy w none→ ∀K:Act→World→Prop,(∀a',a'.defers=a0.defers→(match o.dst with|some d=>a'.eval (.tmp d)|none=>undef)=u→K a' w)→o.wp P ((a0.put (some d0) v0).put (some d1) v1) w K (yt (Pv.eq u) o.dst a0.defers w))(h:zm P ops n a0 w0 F k (Pv.eq u::Rs) os)(hv0:Rs.reverse.getD j0 Pv.any=Pv.eq v0:=by rfl)(hv1:Rs.reverse.getD j1 Pv.any=Pv.eq v1:=by rfl)(hc:(yo ops Rs.length [(j0,d0),(j1,d1)] && yf ops n Rs.length [(j0,d0),(j1,d1)])=true:=by kernel_rfl)(hw:Region.wanted o (yielded ops ((a0.put (some d0) v0).put (some d1) v1).tmps)=true:=by rfl):zm P ops n a0 w0 F (k+1) Rs (o::os):=⟨_, [(j0,d0),(j1,d1)],hc,fun w hw0 x0 h0 x1 h1=>by
 rw [hv0] at h0;obtain rfl:x0=v0:=h0;rw [hv1] at h1;obtain rfl:x1=v1:=h1;exact zr hw fun K hK=>hA w hw0 K fun a' h1 h2=>hK a' w h1 h2 (gRr w none),h⟩
theorem mN2(V:Pv)(j0:Nat)(d0:Tmp)(j1:Nat)(d1:Tmp){v0 v1:Value}(hA: ∀w,w0.grownBy w none→ ∀K:Act→World→Prop,(∀a' w',a'.defers=a0.defers→V.p (match o.dst with|some d=>a'.eval (.tmp d)|none=>undef) w'→w.grownBy w' none→K a' w')→o.wp P ((a0.put (some d0) v0).put (some d1) v1) w K (yt V o.dst a0.defers w))(h:zm P ops n a0 w0 F k (V::Rs) os)(hv0:Rs.reverse.getD j0 Pv.any=Pv.eq v0:=by rfl)(hv1:Rs.reverse.getD j1 Pv.any=Pv.eq v1:=by rfl)(hc:(yo ops Rs.length [(j0,d0),(j1,d1)] && yf ops n Rs.length [(j0,d0),(j1,d1)])=true:=by kernel_rfl)(hw:Region.wanted o (yielded ops ((a0.put (some d0) v0).put (some d1) v1).tmps)=true:=by rfl):zm P ops n a0 w0 F (k+1) Rs (o::os):=⟨_, [(j0,d0),(j1,d1)],hc,fun w hw0 x0 h0 x1 h1=>by
 rw [hv0] at h0;obtain rfl:x0=v0:=h0;rw [hv1] at h1;obtain rfl:x1=v1:=h1;exact zr hw fun K hK=>hA w hw0 K hK,h⟩
theorem YM(u:Value)(j0:Nat)(d0:Tmp)(j1:Nat)(d1:Tmp){v0 v1:Value}(hA: ∀w,w0.grownBy w none→ ∀K:Act→World→Prop,(∀a',a'.defers=a0.defers→(match o.dst with|some d=>a'.eval (.tmp d)|none=>undef)=u→K a' w)→o.wp P ((a0.put (some d0) v0).put (some d1) v1) w K (yt (Pv.eq u) o.dst a0.defers w))(h:zm P ops n a0 w0 F k (Pv.eq u::Rs) os)(hv0:Rs.reverse.getD j0 Pv.any=Pv.eq v0:=by rfl)(hv1:Rs.reverse.getD j1 Pv.any=Pv.eq v1:=by rfl)(hc:(yo ops Rs.length [(j0,d0),(j1,d1)] && yf ops n Rs.length [(j0,d0),(j1,d1)])=true:=by kernel_rfl)(hw:Region.wanted o (yielded ops ((a0.put (some d0) v0).put (some d1) v1).tmps)=true:=by kernel_rfl):zm P ops n a0 w0 F (k+1) Rs (o::os):=⟨_, [(j0,d0),(j1,d1)],hc,fun w hw0 x0 h0 x1 h1=>by
 rw [hv0] at h0;obtain rfl:x0=v0:=h0;rw [hv1] at h1;obtain rfl:x1=v1:=h1;exact zr hw fun K hK=>hA w hw0 K fun a' h1 h2=>hK a' w h1 h2 (gRr w none),h⟩
theorem VP(V:Pv)(j0:Nat)(d0:Tmp)(j1:Nat)(d1:Tmp){v0 v1:Value}(hA: ∀w,w0.grownBy w none→ ∀K:Act→World→Prop,(∀a' w',a'.defers=a0.defers→V.p (match o.dst with|some d=>a'.eval (.tmp d)|none=>undef) w'→w.grownBy w' none→K a' w')→o.wp P ((a0.put (some d0) v0).put (some d1) v1) w K (yt V o.dst a0.defers w))(h:zm P ops n a0 w0 F k (V::Rs) os)(hv0:Rs.reverse.getD j0 Pv.any=Pv.eq v0:=by rfl)(hv1:Rs.reverse.getD j1 Pv.any=Pv.eq v1:=by rfl)(hc:(yo ops Rs.length [(j0,d0),(j1,d1)] && yf ops n Rs.length [(j0,d0),(j1,d1)])=true:=by kernel_rfl)(hw:Region.wanted o (yielded ops ((a0.put (some d0) v0).put (some d1) v1).tmps)=true:=by kernel_rfl):zm P ops n a0 w0 F (k+1) Rs (o::os):=⟨_, [(j0,d0),(j1,d1)],hc,fun w hw0 x0 h0 x1 h1=>by
 rw [hv0] at h0;obtain rfl:x0=v0:=h0;rw [hv1] at h1;obtain rfl:x1=v1:=h1;exact zr hw fun K hK=>hA w hw0 K hK,h⟩
theorem mQ3(u:Value)(j0:Nat)(d0:Tmp)(j1:Nat)(d1:Tmp)(j2:Nat)(d2:Tmp){v0 v1 v2:Value}(hA: ∀w,w0.grownBy w none→ ∀K:Act→World→Prop,(∀a',a'.defers=a0.defers→(match o.dst with|some d=>a'.eval (.tmp d)|none=>undef)=u→K a' w)→o.wp P (((a0.put (some d0) v0).put (some d1) v1).put (some d2) v2) w K (yt (Pv.eq u) o.dst a0.defers w))(h:zm P ops n a0 w0 F k (Pv.eq u::Rs) os)(hv0:Rs.reverse.getD j0 Pv.any=Pv.eq v0:=by rfl)(hv1:Rs.reverse.getD j1 Pv.any=Pv.eq v1:=by rfl)(hv2:Rs.reverse.getD j2 Pv.any=Pv.eq v2:=by rfl)(hc:(yo ops Rs.length [(j0,d0),(j1,d1),(j2,d2)] && yf ops n Rs.length [(j0,d0),(j1,d1),(j2,d2)])=true:=by kernel_rfl)(hw:Region.wanted o (yielded ops (((a0.put (some d0) v0).put (some d1) v1).put (some d2) v2).tmps)=true:=by rfl):zm P ops n a0 w0 F (k+1) Rs (o::os):=⟨_, [(j0,d0),(j1,d1),(j2,d2)],hc,fun w hw0 x0 h0 x1 h1 x2 h2=>by
 rw [hv0] at h0;obtain rfl:x0=v0:=h0;rw [hv1] at h1;obtain rfl:x1=v1:=h1;rw [hv2] at h2;obtain rfl:x2=v2:=h2;exact zr hw fun K hK=>hA w hw0 K fun a' h1 h2=>hK a' w h1 h2 (gRr w none),h⟩
theorem mN3(V:Pv)(j0:Nat)(d0:Tmp)(j1:Nat)(d1:Tmp)(j2:Nat)(d2:Tmp){v0 v1 v2:Value}(hA: ∀w,w0.grownBy w none→ ∀K:Act→World→Prop,(∀a' w',a'.defers=a0.defers→V.p (match o.dst with|some d=>a'.eval (.tmp d)|none=>undef) w'→w.grownBy w' none→K a' w')→o.wp P (((a0.put (some d0) v0).put (some d1) v1).put (some d2) v2) w K (yt V o.dst a0.defers w))(h:zm P ops n a0 w0 F k (V::Rs) os)(hv0:Rs.reverse.getD j0 Pv.any=Pv.eq v0:=by rfl)(hv1:Rs.reverse.getD j1 Pv.any=Pv.eq v1:=by rfl)(hv2:Rs.reverse.getD j2 Pv.any=Pv.eq v2:=by rfl)(hc:(yo ops Rs.length [(j0,d0),(j1,d1),(j2,d2)] && yf ops n Rs.length [(j0,d0),(j1,d1),(j2,d2)])=true:=by kernel_rfl)(hw:Region.wanted o (yielded ops (((a0.put (some d0) v0).put (some d1) v1).put (some d2) v2).tmps)=true:=by rfl):zm P ops n a0 w0 F (k+1) Rs (o::os):=⟨_, [(j0,d0),(j1,d1),(j2,d2)],hc,fun w hw0 x0 h0 x1 h1 x2 h2=>by
 rw [hv0] at h0;obtain rfl:x0=v0:=h0;rw [hv1] at h1;obtain rfl:x1=v1:=h1;rw [hv2] at h2;obtain rfl:x2=v2:=h2;exact zr hw fun K hK=>hA w hw0 K hK,h⟩
theorem AU(u:Value)(j0:Nat)(d0:Tmp)(j1:Nat)(d1:Tmp)(j2:Nat)(d2:Tmp){v0 v1 v2:Value}(hA: ∀w,w0.grownBy w none→ ∀K:Act→World→Prop,(∀a',a'.defers=a0.defers→(match o.dst with|some d=>a'.eval (.tmp d)|none=>undef)=u→K a' w)→o.wp P (((a0.put (some d0) v0).put (some d1) v1).put (some d2) v2) w K (yt (Pv.eq u) o.dst a0.defers w))(h:zm P ops n a0 w0 F k (Pv.eq u::Rs) os)(hv0:Rs.reverse.getD j0 Pv.any=Pv.eq v0:=by rfl)(hv1:Rs.reverse.getD j1 Pv.any=Pv.eq v1:=by rfl)(hv2:Rs.reverse.getD j2 Pv.any=Pv.eq v2:=by rfl)(hc:(yo ops Rs.length [(j0,d0),(j1,d1),(j2,d2)] && yf ops n Rs.length [(j0,d0),(j1,d1),(j2,d2)])=true:=by kernel_rfl)(hw:Region.wanted o (yielded ops (((a0.put (some d0) v0).put (some d1) v1).put (some d2) v2).tmps)=true:=by kernel_rfl):zm P ops n a0 w0 F (k+1) Rs (o::os):=⟨_, [(j0,d0),(j1,d1),(j2,d2)],hc,fun w hw0 x0 h0 x1 h1 x2 h2=>by
 rw [hv0] at h0;obtain rfl:x0=v0:=h0;rw [hv1] at h1;obtain rfl:x1=v1:=h1;rw [hv2] at h2;obtain rfl:x2=v2:=h2;exact zr hw fun K hK=>hA w hw0 K fun a' h1 h2=>hK a' w h1 h2 (gRr w none),h⟩
theorem LQ(V:Pv)(j0:Nat)(d0:Tmp)(j1:Nat)(d1:Tmp)(j2:Nat)(d2:Tmp){v0 v1 v2:Value}(hA: ∀w,w0.grownBy w none→ ∀K:Act→World→Prop,(∀a' w',a'.defers=a0.defers→V.p (match o.dst with|some d=>a'.eval (.tmp d)|none=>undef) w'→w.grownBy w' none→K a' w')→o.wp P (((a0.put (some d0) v0).put (some d1) v1).put (some d2) v2) w K (yt V o.dst a0.defers w))(h:zm P ops n a0 w0 F k (V::Rs) os)(hv0:Rs.reverse.getD j0 Pv.any=Pv.eq v0:=by rfl)(hv1:Rs.reverse.getD j1 Pv.any=Pv.eq v1:=by rfl)(hv2:Rs.reverse.getD j2 Pv.any=Pv.eq v2:=by rfl)(hc:(yo ops Rs.length [(j0,d0),(j1,d1),(j2,d2)] && yf ops n Rs.length [(j0,d0),(j1,d1),(j2,d2)])=true:=by kernel_rfl)(hw:Region.wanted o (yielded ops (((a0.put (some d0) v0).put (some d1) v1).put (some d2) v2).tmps)=true:=by kernel_rfl):zm P ops n a0 w0 F (k+1) Rs (o::os):=⟨_, [(j0,d0),(j1,d1),(j2,d2)],hc,fun w hw0 x0 h0 x1 h1 x2 h2=>by
 rw [hv0] at h0;obtain rfl:x0=v0:=h0;rw [hv1] at h1;obtain rfl:x1=v1:=h1;rw [hv2] at h2;obtain rfl:x2=v2:=h2;exact zr hw fun K hK=>hA w hw0 K hK,h⟩
theorem mN4(V:Pv)(j0:Nat)(d0:Tmp)(j1:Nat)(d1:Tmp)(j2:Nat)(d2:Tmp)(j3:Nat)(d3:Tmp){v0 v1 v2 v3:Value}(hA: ∀w,w0.grownBy w none→ ∀K:Act→World→Prop,(∀a' w',a'.defers=a0.defers→V.p (match o.dst with|some d=>a'.eval (.tmp d)|none=>undef) w'→w.grownBy w' none→K a' w')→o.wp P ((((a0.put (some d0) v0).put (some d1) v1).put (some d2) v2).put (some d3) v3) w K (yt V o.dst a0.defers w))(h:zm P ops n a0 w0 F k (V::Rs) os)(hv0:Rs.reverse.getD j0 Pv.any=Pv.eq v0:=by rfl)(hv1:Rs.reverse.getD j1 Pv.any=Pv.eq v1:=by rfl)(hv2:Rs.reverse.getD j2 Pv.any=Pv.eq v2:=by rfl)(hv3:Rs.reverse.getD j3 Pv.any=Pv.eq v3:=by rfl)(hc:(yo ops Rs.length [(j0,d0),(j1,d1),(j2,d2),(j3,d3)] && yf ops n Rs.length [(j0,d0),(j1,d1),(j2,d2),(j3,d3)])=true:=by kernel_rfl)(hw:Region.wanted o (yielded ops ((((a0.put (some d0) v0).put (some d1) v1).put (some d2) v2).put (some d3) v3).tmps)=true:=by rfl):zm P ops n a0 w0 F (k+1) Rs (o::os):=⟨_, [(j0,d0),(j1,d1),(j2,d2),(j3,d3)],hc,fun w hw0 x0 h0 x1 h1 x2 h2 x3 h3=>by
 rw [hv0] at h0;obtain rfl:x0=v0:=h0;rw [hv1] at h1;obtain rfl:x1=v1:=h1;rw [hv2] at h2;obtain rfl:x2=v2:=h2;rw [hv3] at h3;obtain rfl:x3=v3:=h3;exact zr hw fun K hK=>hA w hw0 K hK,h⟩
theorem Co(V:Pv)(j0:Nat)(d0:Tmp)(j1:Nat)(d1:Tmp)(j2:Nat)(d2:Tmp)(j3:Nat)(d3:Tmp)(j4:Nat)(d4:Tmp){v0 v1 v2 v3 v4:Value}(hA: ∀w,w0.grownBy w none→ ∀K:Act→World→Prop,(∀a' w',a'.defers=a0.defers→V.p (match o.dst with|some d=>a'.eval (.tmp d)|none=>undef) w'→w.grownBy w' none→K a' w')→o.wp P (((((a0.put (some d0) v0).put (some d1) v1).put (some d2) v2).put (some d3) v3).put (some d4) v4) w K (yt V o.dst a0.defers w))(h:zm P ops n a0 w0 F k (V::Rs) os)(hv0:Rs.reverse.getD j0 Pv.any=Pv.eq v0:=by rfl)(hv1:Rs.reverse.getD j1 Pv.any=Pv.eq v1:=by rfl)(hv2:Rs.reverse.getD j2 Pv.any=Pv.eq v2:=by rfl)(hv3:Rs.reverse.getD j3 Pv.any=Pv.eq v3:=by rfl)(hv4:Rs.reverse.getD j4 Pv.any=Pv.eq v4:=by rfl)(hc:(yo ops Rs.length [(j0,d0),(j1,d1),(j2,d2),(j3,d3),(j4,d4)] && yf ops n Rs.length [(j0,d0),(j1,d1),(j2,d2),(j3,d3),(j4,d4)])=true:=by kernel_rfl)(hw:Region.wanted o (yielded ops (((((a0.put (some d0) v0).put (some d1) v1).put (some d2) v2).put (some d3) v3).put (some d4) v4).tmps)=true:=by kernel_rfl):zm P ops n a0 w0 F (k+1) Rs (o::os):=⟨_, [(j0,d0),(j1,d1),(j2,d2),(j3,d3),(j4,d4)],hc,fun w hw0 x0 h0 x1 h1 x2 h2 x3 h3 x4 h4=>by
 rw [hv0] at h0;obtain rfl:x0=v0:=h0;rw [hv1] at h1;obtain rfl:x1=v1:=h1;rw [hv2] at h2;obtain rfl:x2=v2:=h2;rw [hv3] at h3;obtain rfl:x3=v3:=h3;rw [hv4] at h4;obtain rfl:x4=v4:=h4;exact zr hw fun K hK=>hA w hw0 K hK,h⟩
end
section
variable {P:Program} {ops:Array Oper} {n:Nat} {a0:Act} {w0:World} {F:List Pv→Prop} {k:Nat} {Rs:List Pv} {o:Oper} {os:List Oper}
theorem mP0(u:Value)(h:zm P ops n a0 w0 F k (Pv.eq u::Rs) os)(hc:(yo ops Rs.length [] && yf ops n Rs.length [])=true:=by kernel_rfl)(hw:Region.wanted o (yielded ops a0.tmps)=true:=by rfl)(hA: ∀w,o.wp P a0 w (fun a' w'=>a'.defers=a0.defers∧(match o.dst with|some d=>a'.eval (.tmp d)|none=>undef)=u∧w'=w) (yt (Pv.eq u) o.dst a0.defers w):=by intro w;go_simp):zm P ops n a0 w0 F (k+1) Rs (o::os):=mQ0 u (fun w _ K hK=>Oper.wp_mono (fun a' w' h=>by obtain ⟨h1,h2,rfl⟩:=h;exact hK a' h1 h2) (hA w)) h hc hw
theorem mP1(u:Value)(j0:Nat)(d0:Tmp){v0:Value}(h:zm P ops n a0 w0 F k (Pv.eq u::Rs) os)(hv0:Rs.reverse.getD j0 Pv.any=Pv.eq v0:=by rfl)(hc:(yo ops Rs.length [(j0,d0)] && yf ops n Rs.length [(j0,d0)])=true:=by kernel_rfl)(hw:Region.wanted o (yielded ops (a0.put (some d0) v0).tmps)=true:=by rfl)(hA: ∀w,o.wp P (a0.put (some d0) v0) w (fun a' w'=>a'.defers=a0.defers∧(match o.dst with|some d=>a'.eval (.tmp d)|none=>undef)=u∧w'=w) (yt (Pv.eq u) o.dst a0.defers w):=by intro w;go_simp):zm P ops n a0 w0 F (k+1) Rs (o::os):=mQ1 u j0 d0 (fun w _ K hK=>Oper.wp_mono (fun a' w' h=>by obtain ⟨h1,h2,rfl⟩:=h;exact hK a' h1 h2) (hA w)) h hv0 hc hw
theorem ZH(u:Value)(j0:Nat)(d0:Tmp){v0:Value}(h:zm P ops n a0 w0 F k (Pv.eq u::Rs) os)(hv0:Rs.reverse.getD j0 Pv.any=Pv.eq v0:=by rfl)(hc:(yo ops Rs.length [(j0,d0)] && yf ops n Rs.length [(j0,d0)])=true:=by kernel_rfl)(hw:Region.wanted o (yielded ops (a0.put (some d0) v0).tmps)=true:=by kernel_rfl)(hA: ∀w,o.wp P (a0.put (some d0) v0) w (fun a' w'=>a'.defers=a0.defers∧(match o.dst with|some d=>a'.eval (.tmp d)|none=>undef)=u∧w'=w) (yt (Pv.eq u) o.dst a0.defers w):=by intro w;go_simp):zm P ops n a0 w0 F (k+1) Rs (o::os):=AV u j0 d0 (fun w _ K hK=>Oper.wp_mono (fun a' w' h=>by obtain ⟨h1,h2,rfl⟩:=h;exact hK a' h1 h2) (hA w)) h hv0 hc hw
theorem mP2(u:Value)(j0:Nat)(d0:Tmp)(j1:Nat)(d1:Tmp){v0 v1:Value}(h:zm P ops n a0 w0 F k (Pv.eq u::Rs) os)(hv0:Rs.reverse.getD j0 Pv.any=Pv.eq v0:=by rfl)(hv1:Rs.reverse.getD j1 Pv.any=Pv.eq v1:=by rfl)(hc:(yo ops Rs.length [(j0,d0),(j1,d1)] && yf ops n Rs.length [(j0,d0),(j1,d1)])=true:=by kernel_rfl)(hw:Region.wanted o (yielded ops ((a0.put (some d0) v0).put (some d1) v1).tmps)=true:=by rfl)(hA: ∀w,o.wp P ((a0.put (some d0) v0).put (some d1) v1) w (fun a' w'=>a'.defers=a0.defers∧(match o.dst with|some d=>a'.eval (.tmp d)|none=>undef)=u∧w'=w) (yt (Pv.eq u) o.dst a0.defers w):=by intro w;go_simp):zm P ops n a0 w0 F (k+1) Rs (o::os):=mQ2 u j0 d0 j1 d1 (fun w _ K hK=>Oper.wp_mono (fun a' w' h=>by obtain ⟨h1,h2,rfl⟩:=h;exact hK a' h1 h2) (hA w)) h hv0 hv1 hc hw
theorem yV(u:Value)(j0:Nat)(d0:Tmp)(j1:Nat)(d1:Tmp){v0 v1:Value}(h:zm P ops n a0 w0 F k (Pv.eq u::Rs) os)(hv0:Rs.reverse.getD j0 Pv.any=Pv.eq v0:=by rfl)(hv1:Rs.reverse.getD j1 Pv.any=Pv.eq v1:=by rfl)(hc:(yo ops Rs.length [(j0,d0),(j1,d1)] && yf ops n Rs.length [(j0,d0),(j1,d1)])=true:=by kernel_rfl)(hw:Region.wanted o (yielded ops ((a0.put (some d0) v0).put (some d1) v1).tmps)=true:=by kernel_rfl)(hA: ∀w,o.wp P ((a0.put (some d0) v0).put (some d1) v1) w (fun a' w'=>a'.defers=a0.defers∧(match o.dst with|some d=>a'.eval (.tmp d)|none=>undef)=u∧w'=w) (yt (Pv.eq u) o.dst a0.defers w):=by intro w;go_simp):zm P ops n a0 w0 F (k+1) Rs (o::os):=YM u j0 d0 j1 d1 (fun w _ K hK=>Oper.wp_mono (fun a' w' h=>by obtain ⟨h1,h2,rfl⟩:=h;exact hK a' h1 h2) (hA w)) h hv0 hv1 hc hw
theorem mP3(u:Value)(j0:Nat)(d0:Tmp)(j1:Nat)(d1:Tmp)(j2:Nat)(d2:Tmp){v0 v1 v2:Value}(h:zm P ops n a0 w0 F k (Pv.eq u::Rs) os)(hv0:Rs.reverse.getD j0 Pv.any=Pv.eq v0:=by rfl)(hv1:Rs.reverse.getD j1 Pv.any=Pv.eq v1:=by rfl)(hv2:Rs.reverse.getD j2 Pv.any=Pv.eq v2:=by rfl)(hc:(yo ops Rs.length [(j0,d0),(j1,d1),(j2,d2)] && yf ops n Rs.length [(j0,d0),(j1,d1),(j2,d2)])=true:=by kernel_rfl)(hw:Region.wanted o (yielded ops (((a0.put (some d0) v0).put (some d1) v1).put (some d2) v2).tmps)=true:=by rfl)(hA: ∀w,o.wp P (((a0.put (some d0) v0).put (some d1) v1).put (some d2) v2) w (fun a' w'=>a'.defers=a0.defers∧(match o.dst with|some d=>a'.eval (.tmp d)|none=>undef)=u∧w'=w) (yt (Pv.eq u) o.dst a0.defers w):=by intro w;go_simp):zm P ops n a0 w0 F (k+1) Rs (o::os):=mQ3 u j0 d0 j1 d1 j2 d2 (fun w _ K hK=>Oper.wp_mono (fun a' w' h=>by obtain ⟨h1,h2,rfl⟩:=h;exact hK a' h1 h2) (hA w)) h hv0 hv1 hv2 hc hw
theorem AW(u:Value)(j0:Nat)(d0:Tmp)(j1:Nat)(d1:Tmp)(j2:Nat)(d2:Tmp){v0 v1 v2:Value}(h:zm P ops n a0 w0 F k (Pv.eq u::Rs) os)(hv0:Rs.reverse.getD j0 Pv.any=Pv.eq v0:=by rfl)(hv1:Rs.reverse.getD j1 Pv.any=Pv.eq v1:=by rfl)(hv2:Rs.reverse.getD j2 Pv.any=Pv.eq v2:=by rfl)(hc:(yo ops Rs.length [(j0,d0),(j1,d1),(j2,d2)] && yf ops n Rs.length [(j0,d0),(j1,d1),(j2,d2)])=true:=by kernel_rfl)(hw:Region.wanted o (yielded ops (((a0.put (some d0) v0).put (some d1) v1).put (some d2) v2).tmps)=true:=by kernel_rfl)(hA: ∀w,o.wp P (((a0.put (some d0) v0).put (some d1) v1).put (some d2) v2) w (fun a' w'=>a'.defers=a0.defers∧(match o.dst with|some d=>a'.eval (.tmp d)|none=>undef)=u∧w'=w) (yt (Pv.eq u) o.dst a0.defers w):=by intro w;go_simp):zm P ops n a0 w0 F (k+1) Rs (o::os):=AU u j0 d0 j1 d1 j2 d2 (fun w _ K hK=>Oper.wp_mono (fun a' w' h=>by obtain ⟨h1,h2,rfl⟩:=h;exact hK a' h1 h2) (hA w)) h hv0 hv1 hv2 hc hw
end
end
section
open Go Go.RowKit
section
variable {F:Fence} {n:Nat} {P:Program}
def Nd{α:Type}(F:Fence)(n:Nat)(P:Program)(g:Nat)(lb:Array Value)(encs:α→Array Value)(Fx:α→World→Prop)(Kp:World→World→Prop)(S:List α→Prop)(N:Nat)(w:World):Prop:=
 ∀(l:Nat) (J:List α→World→Prop) (W:World),Below w.heap.size w W→AbidesFrom W.heap.size J→
  (∀pre x V,J pre V→Fx x V→pre.length< N→YieldAt F (n - 1) P l (encs x) V fun e V'=>e= .returned (.bool true)∧J (pre++ [x]) V'∧Kp V V')→
  J [] W→CallsIn F n P g (#[.func (.yield l) #[] #[]]++lb) W fun e W'=>(∃v,e= .returned v)∧ ∃xs,S xs∧J xs W'
def FH{α:Type}(B:Nat)(Kp:World→World→Prop)(I:List α→World→Prop)(xs:List α)(W:World):Exit→Act→World→Prop:=fun e _ W'=>e= .normal∧KeepsFrom B W W'∧Kp W W'∧I xs W'
structure LL (B:Nat) (r:Loop) (W:World):Prop where
 lp:W.heap[B+1]? =some (.loop r)
 df:W.heap[B]? =some (.deferred (some []))
theorem LL.from{B:Nat}{r:Loop}{W W':World}(h:LL B r W)(hk:KeepsFrom B W W'):LL B r W':=⟨hk.same _ _ (by omega) h.lp rfl,hk.same _ _ (Nat.le_refl _) h.df rfl⟩
theorem LL.put{B:Nat}{r:Loop}{W:World}(h:LL B r W)(r':Loop):LL B r' (W.putObj (B+1) (.loop r')):=⟨World.putObj_heap_same (Array.getElem?_eq_some_iff.1 h.lp).1,(World.putObj_heap_other (by omega)).trans h.df⟩
theorem LL.walk{B:Nat}{r:Loop}{W W':World}{row:Option Nat}(h:LL B r W)(hg:W.grownBy W' row)(hr: ∀k,row=some k→ ∃o:Obj,W.heap[k]? =some o∧o.isWalk=true):LL B r W':=⟨(grownBy_keeps hg hr h.lp rfl).trans h.lp,(grownBy_keeps hg hr h.df rfl).trans h.df⟩
theorem Zk{α:Type}{g:Operand}{ps:Array Tmp}{assign body:Code}{Q:Exit→Act→World→Prop}{a:Act}{w:World}(p0:F.round=none)(h1:1≤n){gf:Nat}{lb:Array Value}(hg:a.eval g= .func (.func gf) #[] lb)(C0:F.fn gf)
  (eg: ∀args w,(callFunc gf args).run P w= .ok (.enter gf args) w) {encs:α→Array Value} {Fx:α→World→Prop} {Kp:World→World→Prop} {S:List α→Prop} {N:Nat} {w0:World} (g0:Nd F (n - 1) P gf lb encs Fx Kp S N w0)
  (i0: ∀{A B C:World},Kp A B→Kp B C→Kp A C) (m0: ∀(W:World) (l:Nat) (o o':Obj),w.heap.size≤l→W.heap[l]? =some o→o.isCells=false→o.isWalk=false→Kp W (W.putObj l o')) (l0:Below w0.heap.size w0 w) (r0: ∀x,(encs x).size=ps.size)
  (I:List α→World→Prop) (hI:OwnFrom w.heap.size I) (h0:I [] w) (Ax:α→Act→World→Prop) (F0: ∀x a',OwnFrom w.heap.size (fun (_:Unit) W=>Ax x a' W))
  (a0: ∀(l:Nat) (pre:List α) (x:α) (W:World) (K:Act→World→Prop),I pre W→Fx x W→(∀a' W',KeepsFrom w.heap.size W W'→Kp W W'→I pre W'→Ax x a' W'→K a' W')→
   assign.wpIn (F.inRound l) (n - 1 - 1) P (Exit.then K (fun _ _ _=>False)) {tmps:=(ps.zip (encs x)).foldl (fun t (p,v)=>t.setIfInBounds p v) a.tmps,defers:= []} W)
  (d0: ∀(l:Nat) (pre:List α) (x:α) (a':Act) (W:World),w.heap.size≤l→I pre W→Ax x a' W→pre.length< N→body.wpIn (F.inRound l) (n - 1 - 1) P (FH w.heap.size Kp I (pre++ [x]) W) a' W)
  (c0: ∀(D:Nat) (xs:List α) (W:World),w.heap.size≤D→S xs→I xs W→W.heap[D]? =some (.deferred (some []))→Q .normal {a with defers:={target:= .collected D,args:= #[]}::a.defers} W):
  (Code.rangeFunc g ps assign body).wpIn F n P Q a w:=by
 refine wpIn_rangeFunc fun fn y0=> ?_
 rw [p0]
 let rec0:Loop:={state:= .ready,pending:=none,fn,tmps:=a.tmps,params:=ps,assign,body,defers:=w.heap.size}
 let V0:=(w.alloc (.deferred (some []))).alloc (.loop rec0)
 have A0:LL w.heap.size rec0 V0:=⟨by have:=World.alloc_heap_new (w.alloc (.deferred (some []))) (.loop rec0);rwa [World.size_alloc] at this,(Below.heap_alloc _ _ _ (by simp)).trans (World.alloc_heap_new w _)⟩;have z0:V0.heap.size=w.heap.size+2:=by simp [V0]
 have B0:I [] V0:=hI.alloc _ (hI.alloc _ h0);have D0:Below w0.heap.size w0 V0:=l0.trans ((((Below.refl _ w).alloc (Nat.le_refl _) _).alloc (by simp) _).mono l0.size);refine ⟨w.heap.size+1, [{target:= .collected w.heap.size,args:= #[]}],V0,{target:= .fn (.func gf) lb,args:= #[.func (.yield (w.heap.size+1)) #[] #[]]},V0,gf, #[.func (.yield (w.heap.size+1)) #[] #[]]++lb,V0,run_enterLoop_outer _ _ _ _ _, ?_, ?_, ?_,fun _=>h1, ?_⟩
 ·simp only [resolve,hg];simp [go_sem]
 ·intro f' k0;simp [Target.leads] at k0;subst k0;exact C0
 ·simp [invoke,go_sem,eg]
 refine (g0 (w.heap.size+1) (fun pre W=>I pre W∧LL w.heap.size rec0 W) V0 D0 (fun s A B n0 hs j0 hr=>⟨hI s A B n0 hs.1 j0 fun r e=> ?_,hs.2.walk j0 fun r e=>(hr r e).2⟩) ?_ ⟨B0,A0⟩).mono ?_
 ·obtain ⟨h2,o,ho,hw⟩:=hr r e;exact ⟨by rw [z0] at h2;omega,o,ho,Obj.not_cells_of_walk hw⟩
 ·rintro pre x V ⟨hi,hr⟩ hfx hlen;refine ⟨fn,_,assign,body,run_yield hr.lp (r0 x),roundIn_of_wpIn y0 (a0 _ pre x V _ hi hfx fun a' V1 u0 t0 v0 o0=> ?_)⟩;have b0:=hr.from u0;refine ⟨_,run_beginRound b0.lp rfl, ?_⟩;have q0:=b0.put {rec0 with state:= .busy};have s0:=m0 V1 (w.heap.size+1) _ (.loop {rec0 with state:= .busy}) (by omega) b0.lp rfl rfl;refine wpIn_mono (d0 _ pre x a' _ (by omega) (hI.putObj _ v0 (by omega) b0.lp rfl) ((F0 x a').putObj (s:=()) _ o0 (by omega) b0.lp rfl) hlen) ?_;rintro e a3 V3 ⟨rfl,hk3,hp3,hi3⟩;have f0:=q0.from hk3;refine ⟨_,_,run_endRound none f0.lp,rfl,⟨hI.putObj _ hi3 (by omega) f0.lp rfl,f0.put rec0⟩,i0 t0 (i0 (i0 s0 hp3) (m0 _ _ _ _ (by omega) f0.lp rfl rfl))⟩
 ·rintro e V2 ⟨⟨v,rfl⟩,xs,hS,hi,hr⟩;exact ⟨none,_,run_endLoop hr.lp (by simp [rec0]),c0 _ xs _ (Nat.le_refl _) hS (hI.putObj _ hi (by omega) hr.lp rfl) ((World.putObj_heap_other (by omega)).trans hr.df)⟩
end
end
section
open Go.ChangeShapes Go.WideShapes Go.RowKit
theorem Fi{a:Int}(h:(Lit.int .u64 a).wf=true):U64 a:=by
 have:=bounds_u64 h
 unfold U64;omega
theorem JB{a:Int}(h:(Lit.int .i64 a).wf=true):I64 a:=by
 have:=bounds_i64 h
 unfold I64;omega
def Fg{α:Type}(E:Enc α)(t:TypeId):Prop:=
 ∀{H:Type} {enc:TypeId×Value→H} {w:World} {base:Nat} {spare:Nat→Bool} {held:Bool} {fuel:Nat} {cs:List Value} {x:DataW H×List MemPlace},
  DataW.trod enc prog w base spare held fuel t cs=some x→ ∃a,E.rep (fun _=>True) w cs a
theorem KH{t:TypeId}(ht:Tryz.prog.underlying t=some (.int .u64)):Fg ze t:=by
 intro H enc w base spare held fuel cs x h;obtain ⟨n,rfl,_,hw⟩:=DataW.trod_int ht h;exact ⟨n,rfl,Fi hw⟩
end
section
open Go Go.RowKit
section
variable {F:Fence} {n:Nat} {P:Program}
def Mk{α:Type}(F:Fence)(n:Nat)(P:Program)(g:Nat)(lb:Array Value)(encs:α→Array Value)(Fx:α→World→World→Prop)(Kp:World→World→Prop)(S:List α→Prop)(N:Nat)(w:World):Prop:=
 ∀(l:Nat) (J:List α→World→Prop) (W:World),Below w.heap.size w W→AbidesFrom W.heap.size J→
  (∀pre x V0 V,J pre V0→V0.grownBy V none→Fx x V0 V→pre.length< N→YieldAt F (n - 1) P l (encs x) V fun e V'=>e= .returned (.bool true)∧J (pre++ [x]) V'∧Kp V V')→
  J [] W→CallsIn F n P g (#[.func (.yield l) #[] #[]]++lb) W fun e W'=>(∃v,e= .returned v)∧ ∃xs,S xs∧J xs W'
theorem YL{α:Type}{g:Operand}{ps:Array Tmp}{assign body:Code}{Q:Exit→Act→World→Prop}{a:Act}{w:World}(p0:F.round=none)(h1:1≤n){gf:Nat}{lb:Array Value}(hg:a.eval g= .func (.func gf) #[] lb)(C0:F.fn gf)
  (eg: ∀args w,(callFunc gf args).run P w= .ok (.enter gf args) w) {encs:α→Array Value} {Fx:α→World→World→Prop} {Kp:World→World→Prop} {S:List α→Prop} {N:Nat} {w0:World} (g0:Mk F (n - 1) P gf lb encs Fx Kp S N w0)
  (i0: ∀{A B C:World},Kp A B→Kp B C→Kp A C) (m0: ∀(W:World) (l:Nat) (o o':Obj),w.heap.size≤l→W.heap[l]? =some o→o.isCells=false→o.isWalk=false→Kp W (W.putObj l o')) (l0:Below w0.heap.size w0 w) (r0: ∀x,(encs x).size=ps.size)
  (I:List α→World→Prop) (hI:OwnFrom w.heap.size I) (h0:I [] w) (Ax:α→Act→World→Prop) (F0: ∀x a',OwnFrom w.heap.size (fun (_:Unit) W=>Ax x a' W))
  (a0: ∀(l:Nat) (pre:List α) (x:α) (V0 W:World) (K:Act→World→Prop),I pre V0→V0.grownBy W none→Fx x V0 W→(∀a' W',KeepsFrom w.heap.size W W'→Kp W W'→I pre W'→Ax x a' W'→K a' W')→
   assign.wpIn (F.inRound l) (n - 1 - 1) P (Exit.then K (fun _ _ _=>False)) {tmps:=(ps.zip (encs x)).foldl (fun t (p,v)=>t.setIfInBounds p v) a.tmps,defers:= []} W)
  (d0: ∀(l:Nat) (pre:List α) (x:α) (a':Act) (W:World),w.heap.size≤l→I pre W→Ax x a' W→pre.length< N→body.wpIn (F.inRound l) (n - 1 - 1) P (FH w.heap.size Kp I (pre++ [x]) W) a' W)
  (c0: ∀(D:Nat) (xs:List α) (W:World),w.heap.size≤D→S xs→I xs W→W.heap[D]? =some (.deferred (some []))→Q .normal {a with defers:={target:= .collected D,args:= #[]}::a.defers} W):
  (Code.rangeFunc g ps assign body).wpIn F n P Q a w:=by
 refine wpIn_rangeFunc fun fn y0=> ?_
 rw [p0]
 let rec0:Loop:={state:= .ready,pending:=none,fn,tmps:=a.tmps,params:=ps,assign,body,defers:=w.heap.size}
 let V0:=(w.alloc (.deferred (some []))).alloc (.loop rec0)
 have A0:LL w.heap.size rec0 V0:=⟨by have:=World.alloc_heap_new (w.alloc (.deferred (some []))) (.loop rec0);rwa [World.size_alloc] at this,(Below.heap_alloc _ _ _ (by simp)).trans (World.alloc_heap_new w _)⟩;have z0:V0.heap.size=w.heap.size+2:=by simp [V0]
 have B0:I [] V0:=hI.alloc _ (hI.alloc _ h0);have D0:Below w0.heap.size w0 V0:=l0.trans ((((Below.refl _ w).alloc (Nat.le_refl _) _).alloc (by simp) _).mono l0.size);refine ⟨w.heap.size+1, [{target:= .collected w.heap.size,args:= #[]}],V0,{target:= .fn (.func gf) lb,args:= #[.func (.yield (w.heap.size+1)) #[] #[]]},V0,gf, #[.func (.yield (w.heap.size+1)) #[] #[]]++lb,V0,run_enterLoop_outer _ _ _ _ _, ?_, ?_, ?_,fun _=>h1, ?_⟩
 ·simp only [resolve,hg];simp [go_sem]
 ·intro f' k0;simp [Target.leads] at k0;subst k0;exact C0
 ·simp [invoke,go_sem,eg]
 refine (g0 (w.heap.size+1) (fun pre W=>I pre W∧LL w.heap.size rec0 W) V0 D0 (fun s A B n0 hs j0 hr=>⟨hI s A B n0 hs.1 j0 fun r e=> ?_,hs.2.walk j0 fun r e=>(hr r e).2⟩) ?_ ⟨B0,A0⟩).mono ?_
 ·obtain ⟨h2,o,ho,hw⟩:=hr r e;exact ⟨by rw [z0] at h2;omega,o,ho,Obj.not_cells_of_walk hw⟩
 ·rintro pre x V0' V ⟨hi,hr0⟩ hgr0 hfx hlen;have hr:=hr0.walk hgr0 (fun r e=>by simp at e);refine ⟨fn,_,assign,body,run_yield hr.lp (r0 x),roundIn_of_wpIn y0 (a0 _ pre x V0' V _ hi hgr0 hfx fun a' V1 u0 t0 v0 o0=> ?_)⟩;have b0:=hr.from u0;refine ⟨_,run_beginRound b0.lp rfl, ?_⟩;have q0:=b0.put {rec0 with state:= .busy};have s0:=m0 V1 (w.heap.size+1) _ (.loop {rec0 with state:= .busy}) (by omega) b0.lp rfl rfl;refine wpIn_mono (d0 _ pre x a' _ (by omega) (hI.putObj _ v0 (by omega) b0.lp rfl) ((F0 x a').putObj (s:=()) _ o0 (by omega) b0.lp rfl) hlen) ?_;rintro e a3 V3 ⟨rfl,hk3,hp3,hi3⟩;have f0:=q0.from hk3;refine ⟨_,_,run_endRound none f0.lp,rfl,⟨hI.putObj _ hi3 (by omega) f0.lp rfl,f0.put rec0⟩,i0 t0 (i0 (i0 s0 hp3) (m0 _ _ _ _ (by omega) f0.lp rfl rfl))⟩
 ·rintro e V2 ⟨⟨v,rfl⟩,xs,hS,hi,hr⟩;exact ⟨none,_,run_endLoop hr.lp (by simp [rec0]),c0 _ xs _ (Nat.le_refl _) hS (hI.putObj _ hi (by omega) hr.lp rfl) ((World.putObj_heap_other (by omega)).trans hr.df)⟩
end
end
section
open Go
section
variable {P:Program} {ops:Array Oper} {md:Region.Mode} {C:World→Prop} {n:Nat}
end
end
section
open Go Go.RowKit
def Far{α:Type}(E:Enc α)(good:α→Prop)(u0:Value):Prop:=
 ∀{X:Nat→Prop} {W:World} {cs:List Value} {x:α} (b:Nat),(∀i u,W.cell? ⟨b,i,none⟩=some u→u=u0)→E.rep X W cs x→good x→E.rep (fun g=>X g∧g≠b) W cs x∧ ∃u,cs[0]? =some u∧u≠u0
theorem AZ(A:Option Addr)(n c:Nat):Far ze (fun _=>True) (.slice A n c):=fun b _ h _=>by
 obtain ⟨rfl,h2⟩:=h;exact ⟨⟨rfl,h2⟩,_,rfl,by simp⟩
theorem As(A:Option Addr)(n c:Nat):Far zq (fun _=>True) (.slice A n c):=fun b _ h _=>by
 obtain ⟨rfl,h2⟩:=h;exact ⟨⟨rfl,h2⟩,_,rfl,by simp⟩
theorem Far.sl{α:Type}{E:Enc α}{good:α→Prop}{u0:Value}(h:Far E good u0){X:Nat→Prop}{W:World}{v:Value}{xs:List α}{b:Nat}(hb: ∀i u,W.cell? ⟨b,i,none⟩=some u→u=u0)(hs:Sl E X W v xs)(hg: ∀x∈xs,good x):Sl E (fun g=>X g∧g≠b) W v xs:=by
 obtain ⟨A,c,e,h1,h2,h3⟩:=hs;refine ⟨A,c,e,h1,h2,fun hne=> ?_⟩;obtain ⟨g,o,eA,hlt,hX,hi⟩:=h3 hne;refine ⟨g,o,eA,hlt,⟨hX,fun e=> ?_⟩,fun i hi'=> ?_⟩
 ·have h0:0< xs.length:=List.length_pos_iff.2 hne;obtain ⟨cs,hr,hc⟩:=hi 0 h0;obtain ⟨_,u,hu,hne'⟩:=h b hb hr (hg _ (lGm h0))
  have:=hc 0 u hu
  rw [e] at this;exact hne' (hb _ u this)
 ·obtain ⟨cs,hr,hc⟩:=hi i hi';exact ⟨cs,(h b hb hr (hg _ (lGm hi'))).1,hc⟩
theorem Dh{α:Type}{E:Enc α}{good:α→Prop}(h:Far E good (.slice none 0 0)):Far (zh E) (fun xs=>xs≠ []∧ ∀x∈xs,good x) (.slice none 0 0):=fun b hb hr hg=>by
 obtain ⟨v,rfl,hs⟩:=hr;refine ⟨⟨v,rfl,h.sl hb hs hg.2⟩,v,rfl,fun e=> ?_⟩;obtain ⟨A,c,e',_⟩:=hs;rw [e] at e';injection e' with _ e2 _
 exact hg.1 (List.length_eq_zero_iff.1 (by omega))
theorem Jc{W:World}{b:Nat}{t:TypeId}(h:Bk W b t #[.slice none 0 0, .slice none 0 0, .slice none 0 0]): ∀i u,W.cell? ⟨b,i,none⟩=some u→u= .slice none 0 0:=fun i u hu=>by
 rw [h.cell i] at hu
 match i,hu with
 |0,hu=>simpa using hu.symm
 |1,hu=>simpa using hu.symm
 |2,hu=>simpa using hu.symm
 |i+3,hu=>simp at hu
end
end Go.Proofs.YtkdfjkdphdfclaaGreatDoor

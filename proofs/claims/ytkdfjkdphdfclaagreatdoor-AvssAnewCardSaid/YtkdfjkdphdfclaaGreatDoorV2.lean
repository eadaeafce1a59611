/- Part 2 of the proof of a card of AvssAnew. -/
import Derived.Test.YtkdfjkdphdfclaaGreatDoorV1
set_option maxRecDepth 100000
set_option maxHeartbeats 16000000
set_option linter.unusedVariables false
set_option linter.unusedSimpArgs false
namespace Go.Proofs.YtkdfjkdphdfclaaGreatDoor
open Tryz
section
open Go.RowKit
theorem JW(hi lo y:Nat)(w:World)(hl:lo< 18446744073709551616)(hy:y< 18446744073709551616)(h1:hi< y):
  Calls prog 187 #[.int .u64 hi, .int .u64 lo, .int .u64 y] w fun e w'=>e= .returned (.tuple #[.int .u64 (((hi*18446744073709551616+lo) / y:Nat):Int), .int .u64 (((hi*18446744073709551616+lo)%y:Nat):Int)])∧ ∃n,w'=w.drewN n:=by
 by_cases h0:hi=0
 ·subst h0;refine (JV lo y w ⟨by omega,by omega⟩ ⟨by omega,by omega⟩ (by omega)).mono ?_;rintro e w' ⟨rfl,hn⟩;refine ⟨?_,hn⟩;rw [Nat.zero_mul,Nat.zero_add,Int.natCast_ediv,Int.natCast_emod]
 ·exact Lo hi lo y w hl hy (by omega) h1
def Fl(hi lo y:Int):Int:=(hi*18446744073709551616+lo) / y
def Vy(hi lo y:Int):Int:=(hi*18446744073709551616+lo)%y
theorem Pp(hi lo y:Int)(w:World)(h0:0≤hi)(hl0:0≤lo)(hl:lo< 18446744073709551616)(hy:y< 18446744073709551616)(h1:hi< y):
  Calls prog 187 #[.int .u64 hi, .int .u64 lo, .int .u64 y] w fun e w'=>e= .returned (.tuple #[.int .u64 (Fl hi lo y), .int .u64 (Vy hi lo y)])∧ ∃n,w'=w.drewN n:=by
 obtain ⟨a,rfl⟩:=Int.eq_ofNat_of_zero_le h0;obtain ⟨b,rfl⟩:=Int.eq_ofNat_of_zero_le hl0;obtain ⟨c,rfl⟩:=Int.eq_ofNat_of_zero_le (show 0≤y by omega);refine (JW a b c w (by omega) (by omega) (by omega)).mono ?_;rintro e w' ⟨rfl,hn⟩;refine ⟨?_,hn⟩;unfold Fl Vy;rw [Int.natCast_ediv,Int.natCast_emod,Int.natCast_add,Int.natCast_mul];rfl
theorem yd(a m:Int)(hm:0< m):0≤a%m∧a%m< m:=⟨Int.emod_nonneg a (by omega),Int.emod_lt_of_pos a hm⟩
theorem KF(hi lo y:Int)(w:World)(h0:0≤hi)(hl0:0≤lo)(hl:lo< 18446744073709551616)(hy:y< 18446744073709551616)(h1:hi< y):
  Calls prog 184 #[.int .u64 hi, .int .u64 lo, .int .u64 y] w fun e w'=>e= .returned (.int .u64 (Vy hi lo y))∧ ∃n,w'=w.drewN n:=by
 have e1:hi%y=hi:=Int.emod_eq_of_lt h0 h1;go_enter func184,ntmps184;go_wp2_with (go_at_call 187;refine (Pp _ _ _ _ h0 hl0 hl hy h1).mono ?_;rintro e w' ⟨rfl,n,rfl⟩);go_ret;exact ⟨rfl,_,rfl⟩
def zR(a b m:Int):Int:=if zO m then (a%m*(b%m))%m else 0
def XX(x y:Int):Int:=x*y / 18446744073709551616
def Es(x y:Int):Int:=x*y%18446744073709551616
theorem Jf(x y:Int)(w:World)(hx0:0≤x)(hx:x< 18446744073709551616)(hy0:0≤y)(hy:y< 18446744073709551616):
  Calls prog 183 #[.int .u64 x, .int .u64 y] w fun e w'=>e= .returned (.tuple #[.int .u64 (XX x y), .int .u64 (Es x y)])∧w'=w:=by
 obtain ⟨a,rfl⟩:=Int.eq_ofNat_of_zero_le hx0;obtain ⟨b,rfl⟩:=Int.eq_ofNat_of_zero_le hy0;refine (Je a b (by omega) (by omega) w).mono ?_;rintro e w' ⟨rfl,hn⟩;refine ⟨?_,hn.symm⟩;unfold XX Es;rw [Int.natCast_ediv,Int.natCast_emod,Int.natCast_mul];rfl
theorem Er(x y:Int):0≤Es x y∧Es x y< 18446744073709551616:=yd _ _ (by decide)
theorem EA(x y m:Int)(hx0:0≤x)(hx:x< m)(hy0:0≤y)(hy:y< m)(hm:m≤18446744073709551616):0≤XX x y∧XX x y< m:=by
 unfold XX;have h0:=Int.mul_nonneg hx0 hy0;have h1:x*y< m*18446744073709551616:=Int.lt_of_le_of_lt (Int.mul_le_mul_of_nonneg_left (show y≤18446744073709551616 by omega) hx0) (by omega);exact ⟨by omega,by omega⟩
theorem AX(x y:Int):XX x y*18446744073709551616+Es x y=x*y:=by unfold XX Es;omega
theorem Hu(x y m:Int):Vy (XX x y) (Es x y) m=x*y%m:=by unfold Vy;rw [AX]
theorem ZG(a b m:Int)(w:World)(ha:U64 a)(hb:U64 b):
  Calls prog 139 #[.int .u64 a, .int .u64 b, .int .u64 m] w fun e w'=>e= .returned (.int .u64 (zR a b m))∧ ∃n,w'=w.drewN n:=by
 unfold U64 at ha hb;obtain ⟨ha0,ha1⟩:=ha;obtain ⟨hb0,hb1⟩:=hb;cases hm:zO m with
 |false=>
  have H:=Lib.hid hm;have hr:zR a b m=0:=by simp [zR,hm]
  rw [hr];clear hm hr;go_enter func139,ntmps139;go_wp2_with (go_at_call 182;refine (NI _ _ H.out).mono ?_;rintro e w' ⟨rfl,rfl⟩);go_ret;exact ⟨rfl,0,rfl⟩
 |true=>
  have H:=Lib.hid hm;have hr:zR a b m=a%m*(b%m)%m:=by simp [zR,hm]
  rw [hr];simp [zO] at hm;obtain ⟨hm0,hm1⟩:=hm;obtain ⟨e1,e2⟩:=yd a m hm0;obtain ⟨e3,e4⟩:=yd b m hm0;have HR:=Lib.hid (Hu (a%m) (b%m) m);obtain ⟨l0,l1⟩:=Er (a%m) (b%m);obtain ⟨h0,h1⟩:=EA (a%m) (b%m) m e1 e2 e3 e4 (by omega);clear hr;go_enter func139,ntmps139;go_wp2_with (go_at_call 182;refine (UB _ _ H.out).mono ?_;rintro e w' ⟨rfl,rfl⟩);go_quiet ((go_at_call 183;exact Calls.quiet_of_same (Jf _ _ _ e1 (by omega) e3 (by omega))));go_wp2_with (go_at_call 184;refine (KF _ _ _ _ h0 l0 l1 (by omega) h1).mono ?_;rintro e w' ⟨rfl,n,rfl⟩);go_ret;refine ⟨?_,_,rfl⟩;exact congrArg Ending.returned (congrArg (Value.int .u64) HR.out)
def YW(a e m:Int):Int:=if zO m then a ^ e.toNat%m else 0
theorem yG(a b m:Int)(hm:zO m=true):zR a b m=a*b%m:=by
 simp [zR,hm,Int.mul_emod]
theorem OG(a b m:Int)(hm:zO m=true):0≤zR a b m∧zR a b m< m:=by
 rw [yG a b m hm];simp [zO] at hm;exact yd _ _ hm.1
theorem yw(a b m:Int):U64 (zR a b m):=by
 cases hm:zO m with
 |false=>simp [zR,hm,U64]
 |true=>
  have:=OG a b m hm
  simp [zO] at hm;unfold U64;omega
def ZW(a0 e0 m o x k:Int):Prop:=Cg m (o*x ^ k.toNat) (a0 ^ e0.toNat)
theorem ZW.start(a e m:Int):ZW a e m (1%m) a e:=((Cg.mod m 1).mul_right _).trans (Cg.of_eq (Int.one_mul _))
theorem Rv(a b m:Int)(hm:zO m=true):Cg m (zR a b m) (a*b):=by
 rw [yG a b m hm];exact Cg.mod _ _
theorem ZW.even{a e m o x k:Int}(hm:zO m=true)(h:ZW a e m o x k)(hk:0≤k)(h2:k%2=0):ZW a e m o (zR x x m) (k / 2):=by
 refine Cg.trans ?_ h;rw [Ms k hk h2, ←Fm];exact ((Rv x x m hm).pow _).mul_left _
theorem ZW.odd{a e m o x k:Int}(hm:zO m=true)(h:ZW a e m o x k)(hk:0≤k)(h2:k%2=1):ZW a e m (zR o x m) (zR x x m) (k / 2):=by
 refine Cg.trans ?_ h;rw [Kg k hk h2,Int.pow_succ, ←Fm];refine ((Rv o x m hm).mul ((Rv x x m hm).pow _)).trans (Cg.of_eq ?_);rw [Int.mul_assoc,Int.mul_comm x]
theorem ZW.done{a e m o x k:Int}(h:ZW a e m o x k)(hk:k=0)(h0:0≤o)(h1:o< m):o=a ^ e.toNat%m:=by
 subst hk;unfold ZW Cg at h;rw [←h];simp [Int.emod_eq_of_lt h0 h1]
theorem KN(a e m:Int)(w:World)(ha:U64 a)(he:U64 e):
  Calls prog 138 #[.int .u64 a, .int .u64 e, .int .u64 m] w fun e' w'=>e'= .returned (.int .u64 (YW a e m))∧ ∃n,w'=w.drewN n:=by
 cases hm:zO m with
 |false=>
  have H:=Lib.hid hm;have hr:YW a e m=0:=by simp [YW,hm]
  rw [hr];clear hm hr;go_enter func138,ntmps138;go_wp2_with (go_at_call 182;refine (NI _ _ H.out).mono ?_;rintro e w' ⟨rfl,rfl⟩);go_ret;exact ⟨rfl,0,rfl⟩
 |true=>
  have H:=Lib.hid hm;have hr:YW a e m=a ^ e.toNat%m:=by simp [YW,hm]
  rw [hr];simp [zO] at hm;obtain ⟨hm0,hm1⟩:=hm;obtain ⟨e1,e2⟩:=yd 1 m hm0;have HP:=Lib.hid (ZW.start a e m);clear hr;have HA:=Lib.hid ha;obtain ⟨he0,he1⟩:=he;clear ha;go_enter func138,ntmps138;go_wp2_with (go_at_call 182;refine (UB _ _ H.out).mono ?_;rintro e w' ⟨rfl,rfl⟩);go_loopw [0,1,7] (fun sa se so wr=> ∃o x k:Int,so= .int .u64 o∧sa= .int .u64 x∧se= .int .u64 k∧Hid (U64 x)∧0≤o∧o< m∧0≤k∧k< 18446744073709551616∧Hid (ZW a e m o x k)∧ ∃n,wr=w.drewN n) (fun _ se _ _=>(intOf se).toNat)
  case atStart=>exact ⟨_,_,_,rfl,rfl,rfl,HA,e1,e2,he0,he1,HP,0,rfl⟩
  case round=>
   obtain ⟨o,x,k,rfl,rfl,rfl,hx,ho0,ho1,hk0,hk1,hp,n,rfl⟩:=hrel;have hb:bits BinOp.and IntKind.u64 k 1=k%2:=and_one_u64 k hk0 (by omega);by_cases h0:0< k
   ·by_cases h2:k%2=1
    ·have h2':(bits BinOp.and IntKind.u64 k 1==1)=true:=by rw [hb,h2];rfl
     have HP2:=Lib.hid (hp.out.odd H.out hk0 h2);have hbd:=OG o x m H.out;obtain ⟨b0,b1⟩:=hbd;have HO:Hid (U64 o):=Lib.hid ⟨ho0,by omega⟩;have HX:=Lib.hid (yw x x m);clear hb h2;go_wp2_with fail;refine (ZG o x m _ HO.out hx.out).mono ?_;rintro e w' ⟨rfl,n1,rfl⟩;go_wp2_with fail;refine (ZG x x m _ hx.out hx.out).mono ?_;rintro e w' ⟨rfl,n2,rfl⟩;go_wp2;go_roundw
     case rel=>exact ⟨_,_,_,rfl,rfl,rfl,HX,b0,b1,by omega,by omega,HP2,_,rfl⟩
     case measure=>simp [intOf];omega
    ·have h2':(bits BinOp.and IntKind.u64 k 1==1)=false:=by rw [hb];simpa using h2
     have HP2:=Lib.hid (hp.out.even H.out hk0 (by omega));have HX:=Lib.hid (yw x x m);clear hb h2;go_wp2_with fail;refine (ZG x x m _ hx.out hx.out).mono ?_;rintro e w' ⟨rfl,n2,rfl⟩;go_wp2;go_roundw
     case rel=>exact ⟨_,_,_,rfl,rfl,rfl,HX,ho0,ho1,by omega,by omega,HP2,_,rfl⟩
     case measure=>simp [intOf];omega
   ·have HD:=Lib.hid (hp.out.done (by omega) ho0 ho1);go_wp2;go_ret;exact ⟨congrArg Ending.returned (congrArg (Value.int .u64) HD.out),_,rfl⟩
instance (a:Int):Decidable (U64 a):=by unfold U64;infer_instance
theorem Ov{a b:Int}(h:a=b):Ending.returned (.int .u64 a)= .returned (.int .u64 b):=by rw [h]
theorem zn{a b:Bool}(h:a=b):Ending.returned (.bool a)= .returned (.bool b):=by rw [h]
theorem zb(w:World)(n:Nat):w.grownBy (w.drewN n) none:=zf (gRr w none) n
structure Par where
 P:Int
 Q:Int
 G:Int
 H:Int
 Nodes:Int
 N:Int
 T:Int
 K:Int
 D:Int
 R:Int
 M:Int
 X:Int
structure Par.ok (p:Par):Prop where
 P:U64 p.P
 Q:U64 p.Q
 G:U64 p.G
 H:U64 p.H
 Nodes:I64 p.Nodes
 N:I64 p.N
 T:I64 p.T
 K:I64 p.K
 D:I64 p.D
 R:I64 p.R
 M:I64 p.M
 X:I64 p.X
abbrev Par.cells(p:Par):Array Value:= #[.int .u64 p.P, .int .u64 p.Q, .int .u64 p.G, .int .u64 p.H, .int .i64 p.Nodes, .int .i64 p.N, .int .i64 p.T, .int .i64 p.K, .int .i64 p.D, .int .i64 p.R, .int .i64 p.M, .int .i64 p.X]
abbrev Par.v(p:Par):Value:= .agg p.cells
theorem Bk.rule{w:World}{g:Nat}{t:TypeId}{cs:Array Value}(h:Bk w g t cs): ∀o,w.cell? ⟨g,o,none⟩=cs[o]? :=fun o=>h.cell o
theorem Bk.prule{w:World}{g:Nat}{t:TypeId}{p:Par}(h:Bk w g t p.cells): ∀o,w.cell? ⟨g,o,none⟩=(#[.int .u64 p.P, .int .u64 p.Q, .int .u64 p.G, .int .u64 p.H, .int .i64 p.Nodes, .int .i64 p.N, .int .i64 p.T, .int .i64 p.K, .int .i64 p.D, .int .i64 p.R, .int .i64 p.M, .int .i64 p.X]:Array Value)[o]? :=fun o=>h.cell o
theorem xh{w:World}{g:Nat}{cs:Array Value}(h: ∀o,w.cell? ⟨g,o,none⟩=cs[o]?)(hg:g< w.heap.size)(ob:Obj): ∀o,(w.alloc ob).cell? ⟨g,o,none⟩=cs[o]? :=fun o=>(World.cell?_alloc_lt w ob ⟨g,o,none⟩ hg).trans (h o)
theorem zJ{w a b:World}(hg:a.grownBy b none)(h:Hid (w.grownBy a none)):Hid (w.grownBy b none):=h.out.trans hg
theorem xw{a b:World}{g:Nat}{t:TypeId}{cs:Array Value}(hg:a.grownBy b none)(h:Hid (Bk a g t cs)):Hid (Bk b g t cs):=h.out.grown hg (by simp)
def yh(P:Int)(l:List Int):Int:=l.foldl (fun x y=>zR x y P) (zR 1 1 P)
theorem Om(P:Int)(l:List Int)(k:Nat)(h:k< l.length):yh P (l.take (k+1))=zR (yh P (l.take k)) l[k] P:=by
 unfold yh;rw [tSg h,List.foldl_append];rfl
theorem xf(P:Int)(l:List Int):U64 (yh P l):=by
 unfold yh;rcases List.eq_nil_or_concat l with rfl|⟨l',x,rfl⟩
 ·exact yw _ _ _
 ·rw [List.concat_eq_append,List.foldl_append];exact yw _ _ _
theorem Qn(p:Par)(v:Value)(l:List Int)(X:Nat→Prop)(w:World)(h:Sl ze X w v l):
  Calls prog 143 #[p.v,v] w fun e w'=>e= .returned (.int .u64 (yh p.P l))∧w.grownBy w' none:=by
 have H:=za h;obtain ⟨A,c,rfl,h1,h2⟩:=h.form;clear h;go_enter func143,ntmps143;go_wp2_with fail;refine (ZG 1 1 p.P _ (by decide) (by decide)).mono ?_;rintro e w' ⟨rfl,n,rfl⟩;go_wp2_with fail;have HB:Hid (w.grownBy ((w.alloc (Obj.cells p.cells 39)).drewN n) none∧Bk ((w.alloc (Obj.cells p.cells 39)).drewN n) w.heap.size 39 p.cells):=za ⟨zf (gAl w _ none) n,(Bk.new w _ _).drewN n⟩;go_loopg [5,13] l.length (fun g s5 s13 wx=> ∃j:Nat,j+g=l.length∧s13= .int .i64 j∧s5= .int .u64 (yh p.P (l.take j))∧Hid (w.grownBy wx none∧Bk wx w.heap.size 39 p.cells))
 case atStart=>exact ⟨0,by omega,rfl,rfl,HB⟩
 case round=>
  obtain ⟨j,hj,rfl,rfl,HX⟩:=hrel;cases gk with
  |zero=>
   obtain rfl:j=l.length:=by omega
   have HE:Hid (yh p.P (l.take l.length)=yh p.P l):=za (by rw [List.take_length]);go_wp2;go_ret;exact ⟨Ov HE.z,HX.z.1⟩
  |succ k=>
   have hjn:(j:Int)< (l.length:Int):=by omega
   have hjN:j< l.length:=by omega
   obtain ⟨g,o,c',e,_,_,hc,hu⟩:=(H.out.kept HX.z.1).atU hjN;injection e with e1 e2 e3
   subst e1 e3;have cP:wr.cell? ⟨w.heap.size,0,none⟩=some (.int .u64 p.P):=HX.z.2.cell 0;have HS:=za (Om p.P l j hjN);have HM:=za (xf p.P (l.take j));have HU:=za hu;generalize l[j]=y at *;generalize yh p.P (l.take j)=t at *;clear hu e2;go_wp2_with fail;refine (ZG t y p.P _ HM.z HU.z).mono ?_;rintro e w' ⟨rfl,n,rfl⟩;go_wp2;go_roundg k
   case measure=>omega
   case rel=>exact ⟨j+1,by omega,by go_num,by rw [HS.z],za ⟨zf HX.z.1 n,HX.z.2.drewN n⟩⟩
theorem XN(v:Value)(l:List Int)(n k:Nat)(X Y:Nat→Prop)(w:World)(h:Sl ze X w v l)(hn:1≤n)(hl:l.length=k*n)(hb:l.length≤100000)(hY: ∀g,w.heap.size≤g→Y g)(t0: ∀cs y w',Enc.rep ze (fun g=>X g∧g< w.heap.size) w' cs y→Enc.rep ze (fun g=>Y g∧g< w.heap.size) w' cs y):
  Calls prog 200 #[v, .int .i64 n] w (zN (xV ze) Y w (chk n l k)):=by
 have hk:k≤100000:=by
  have:k*1≤k*n:=Nat.mul_le_mul_left k hn
  omega
 have p0:k≠0→n≤100000:=fun h0=>by
  have:1*n≤k*n:=Nat.mul_le_mul_right n (by omega)
  omega
 have HL:=za hl;have M0:=za p0;have HY:=za hY;have G0:=za t0;have k0:Hid (Sl ze X w v (l.drop (0*n))∧Acc (xV ze) w.heap.size 31 Y w (.slice none 0 0) (chk n l 0)∧w.grownBy w none):=za ⟨by simpa using h,Acc.nil _ _ _ _ _,gRr w none⟩;clear h hl p0 hY t0 hb;go_enter func200,ntmps200;go_wp2_with fail;go_loopg [0,5] k (fun g s0 s5 wx=> ∃j:Nat,j+g=k∧Hid (Sl ze X w s0 (l.drop (j*n))∧Acc (xV ze) w.heap.size 31 Y wx s5 (chk n l j)∧w.grownBy wx none))
 case atStart=>exact ⟨0,by omega,k0⟩
 case round=>
  obtain ⟨j,hj,HX⟩:=hrel;cases gk with
  |zero=>
   obtain rfl:j=k:=by omega
   obtain ⟨hs,b0,hg⟩:=HX.z;obtain ⟨A,c,rfl,_,_⟩:=hs.form;have h0:(l.drop (j*n)).length=0:=by rw [List.length_drop,HL.z];omega
   rw [h0];have HR:Hid (Sl (xV ze) Y wr u5 (chk n l j)):=za b0.sl;have HG:=za hg;clear hs b0 hg HX h0 k0;go_wp2;go_ret;exact ⟨_,rfl,HR.z,HG.z⟩
  |succ m=>
   obtain ⟨hs,b0,hg⟩:=HX.z;have d0:(j+1+m)*n=j*n+n+m*n:=by rw [Nat.add_mul,Nat.add_mul,Nat.one_mul]
   have f0:l.length=j*n+n+m*n:=by rw [HL.z, ←hj, ←d0];congr 1;omega
   have hd:(l.drop (j*n)).length=n+m*n:=by rw [List.length_drop];omega
   obtain ⟨A,c,e0,r0,V0⟩:=hs.form;subst e0;obtain ⟨ga,oa,eA,T0,_⟩:=hs.addr (by omega);subst eA;have H0:Hid (Sl ze X w (.slice (some ⟨ga,oa,none⟩) n c) ((l.drop (j*n)).take n)):=za (hs.take n (by omega));have y0:Hid (Sl ze X w (.slice (some ⟨ga,oa+n,none⟩) (n+m*n - n) (c - n)) (l.drop ((j+1)*n))):=za (by
    rw [hd] at hs
    have:=hs.drop n (by omega)
    rwa [List.drop_drop,show j*n+n=(j+1)*n by rw [Nat.add_mul,Nat.one_mul],show n*Enc.size ze=n from Nat.mul_one n] at this)
   have O0:Hid (m=0→l.drop ((j+1)*n)= []):=za (fun hm=>List.drop_eq_nil_of_le (by rw [f0,hm,Nat.add_mul];omega));have j0:Hid (((l.drop (j*n)).take n).length=n):=za (by rw [lLt,hd];omega);rw [hd] at r0 ⊢;have S0:n≤100000:=M0.z (by omega);have A0:=za b0;have HG:=za hg;have I0:=za (RN n l j);have P0:=za (zI n l j);obtain ⟨q,hq⟩:=exq (n+m*n);rw [←hq] at r0 ⊢;have R0:n≤q:=by omega
   clear hs b0 hg HX hd f0 d0 k0;have HQ:=za hq;have i1:(0:Int)< (q:Int):=by omega
   have i2:(n:Int)≤(q:Int):=by omega
   have i3:(n:Int)≤(c:Int):=by omega
   have i4:(0:Int)≤(n:Int):=by omega
   clear hq;have m0:Hid (∀g,u5.ownBlock=some g→w.heap.size≤g∧g< wr.heap.size):=za A0.z.lt;have HZ:Hid (∀cs y,Enc.rep ze (fun g=>X g∧g< w.heap.size) (wr.alloc (.cells #[] 22)) cs y→Enc.rep ze (fun g=>(Y g∧some g≠u5.ownBlock)∧some g≠(Value.slice (some ⟨wr.heap.size,0,none⟩) 0 0).ownBlock) (wr.alloc (.cells #[] 22)) cs y):=
    za (fun cs y hr=>Enc.more _ (G0.z _ _ _ hr) fun g _ hg=>⟨⟨hg.1,fun e=>by have:=m0.z g e.symm;have:=hg.2;omega⟩,fun e=>by simp [Value.ownBlock] at e;have:=hg.2;have:=HG.z.size;omega⟩)
   have J0:Hid (Sl ze (fun g=>X g∧g< w.heap.size) (wr.alloc (.cells #[] 22)) (.slice (some ⟨ga,oa,none⟩) n c) ((l.drop (j*n)).take n)):=za (H0.z.bounded.kept (HG.z.trans (gAl wr _ none)));have Q0:Hid ((([]:List Int).length+((l.drop (j*n)).take n).length)*8≤140737488355328):=za (by rw [j0.z];simp;omega);have L0:Hid (∀g,(wr.alloc (.cells #[] 22)).heap.size≤g→Y g∧some g≠u5.ownBlock):=za (fun g hg=>⟨HY.z g (by have:=HG.z.size;simp at hg;omega),fun e=>by have:=m0.z g e.symm;simp at hg;omega⟩);go_wp2_with (at_builtin;refine xF rfl (.tmp 13) (.tmp 16) rfl (E:=ze) xD (Acc.made _ wr 22 (nRf _) (fun g=>Y g∧some g≠u5.ownBlock) ⟨HY.z _ HG.z.size,fun e=>by have:=m0.z _ e.symm;omega⟩) rfl rfl J0.z HZ.z Q0.z (by simp) L0.z ?_);intro v1 w1 a0 q0 F0;obtain ⟨A1,c1,e1,_,_⟩:=a0.sl.form;rw [j0.z] at e1;subst e1;have Z0:=za a0;have n0:Hid (wr.grownBy w1 none):=za (zP (gAl wr _ none) q0 (fun g e=>by simp [Value.ownBlock] at e;omega));have l0:Hid (Enc.rep (xV ze) (fun g=>Y g∧some g≠u5.ownBlock) w1 [.slice A1 n c1] ((l.drop (j*n)).take n)):=za (by
    have C0:0< ((l.drop (j*n)).take n).length:=by rw [j0.z];omega
    exact ⟨_,rfl,a0.sl,a0.wr C0⟩)
   clear a0 q0 F0;have N0:Hid (((chk n l j).length+1)*24≤140737488355328):=za (by rw [P0.z];omega);have g0:=za (A0.z.kept n0.z);have v0:=za (HG.z.trans n0.z);have z0:Hid (w.heap.size≤w1.heap.size):=za v0.z.size;have K0:Hid (∀g,w1.heap.size≤g→Y g):=za (fun g hg=>HY.z g (nLT z0.z hg));go_wp2_with (at_builtin;refine zW rfl (.tmp 12) (.tmp 18) rfl (E:=xV ze) Zo g0.z rfl rfl l0.z N0.z z0.z K0.z ?_);intro v2 w2 c0 i0 D0;have u0:Hid (w.grownBy w2 none):=za (zP v0.z i0 (fun g e=>(g0.z.lt g e).1));have Y0:Hid (wr.grownBy w2 u5.ownBlock):=za ((xm n0.z).trans i0);have B0:Hid (Acc (xV ze) w.heap.size 31 Y w2 v2 (chk n l (j+1))):=za (by rw [I0.z];exact c0);clear c0 i0 D0;have HE:Hid (c=n→l.drop ((j+1)*n)= []):=za (fun U0=>O0.z (by
    rcases Nat.eq_zero_or_pos m with h|h
    ·exact h
    ·have:=Nat.mul_le_mul h (nRf n)
     have:=HQ.z
     omega))
   have o0:Hid (Sl ze X w (.slice (some ⟨ga,oa+n,none⟩) (q - n) (c - n)) (l.drop ((j+1)*n))):=za (by rw [HQ.z];exact y0.z);clear y0;go_wp2_with fail
   all_goals
    go_roundg m
    case measure=>omega
    case rel=>first|exact ⟨j+1,by omega,za ⟨o0.z,B0.z,u0.z⟩⟩|exact ⟨j+1,by omega,za ⟨by rw [HE.z (by assumption),show q - n=0 by omega];exact Sl.empty _ _ _ _ _ (by omega),B0.z,u0.z⟩⟩
theorem VY(v:Value)(l:List (List Int))(n k:Nat)(X Y:Nat→Prop)(w:World)(h:Sl (xV ze) X w v l)(hn:1≤n)(hl:l.length=k*n)(hb:l.length≤100000)(hY: ∀g,w.heap.size≤g→Y g)(t0: ∀cs y w',Enc.rep (xV ze) (fun g=>X g∧g< w.heap.size) w' cs y→Enc.rep (xV ze) (fun g=>Y g∧g< w.heap.size) w' cs y):
  Calls prog 199 #[v, .int .i64 n] w (zN (xV (xV ze)) Y w (chk n l k)):=by
 have hk:k≤100000:=by
  have:k*1≤k*n:=Nat.mul_le_mul_left k hn
  omega
 have p0:k≠0→n≤100000:=fun h0=>by
  have:1*n≤k*n:=Nat.mul_le_mul_right n (by omega)
  omega
 have HL:=za hl;have M0:=za p0;have HY:=za hY;have G0:=za t0;have k0:Hid (Sl (xV ze) X w v (l.drop (0*n))∧Acc (xV (xV ze)) w.heap.size 43 Y w (.slice none 0 0) (chk n l 0)∧w.grownBy w none):=za ⟨by simpa using h,Acc.nil _ _ _ _ _,gRr w none⟩;clear h hl p0 hY t0 hb;go_enter func199,ntmps199;go_wp2_with fail;go_loopg [0,5] k (fun g s0 s5 wx=> ∃j:Nat,j+g=k∧Hid (Sl (xV ze) X w s0 (l.drop (j*n))∧Acc (xV (xV ze)) w.heap.size 43 Y wx s5 (chk n l j)∧w.grownBy wx none))
 case atStart=>exact ⟨0,by omega,k0⟩
 case round=>
  obtain ⟨j,hj,HX⟩:=hrel;cases gk with
  |zero=>
   obtain rfl:j=k:=by omega
   obtain ⟨hs,b0,hg⟩:=HX.z;obtain ⟨A,c,rfl,_,_⟩:=hs.form;have h0:(l.drop (j*n)).length=0:=by rw [List.length_drop,HL.z];omega
   rw [h0];have HR:Hid (Sl (xV (xV ze)) Y wr u5 (chk n l j)):=za b0.sl;have HG:=za hg;clear hs b0 hg HX h0 k0;go_wp2;go_ret;exact ⟨_,rfl,HR.z,HG.z⟩
  |succ m=>
   obtain ⟨hs,b0,hg⟩:=HX.z;have d0:(j+1+m)*n=j*n+n+m*n:=by rw [Nat.add_mul,Nat.add_mul,Nat.one_mul]
   have f0:l.length=j*n+n+m*n:=by rw [HL.z, ←hj, ←d0];congr 1;omega
   have hd:(l.drop (j*n)).length=n+m*n:=by rw [List.length_drop];omega
   obtain ⟨A,c,e0,r0,V0⟩:=hs.form;subst e0;obtain ⟨ga,oa,eA,T0,_⟩:=hs.addr (by omega);subst eA;have H0:Hid (Sl (xV ze) X w (.slice (some ⟨ga,oa,none⟩) n c) ((l.drop (j*n)).take n)):=za (hs.take n (by omega));have y0:Hid (Sl (xV ze) X w (.slice (some ⟨ga,oa+n,none⟩) (n+m*n - n) (c - n)) (l.drop ((j+1)*n))):=za (by
    rw [hd] at hs
    have:=hs.drop n (by omega)
    rwa [List.drop_drop,show j*n+n=(j+1)*n by rw [Nat.add_mul,Nat.one_mul],show n*Enc.size (xV ze)=n from Nat.mul_one n] at this)
   have O0:Hid (m=0→l.drop ((j+1)*n)= []):=za (fun hm=>List.drop_eq_nil_of_le (by rw [f0,hm,Nat.add_mul];omega));have j0:Hid (((l.drop (j*n)).take n).length=n):=za (by rw [lLt,hd];omega);rw [hd] at r0 ⊢;have S0:n≤100000:=M0.z (by omega);have A0:=za b0;have HG:=za hg;have I0:=za (RN n l j);have P0:=za (zI n l j);obtain ⟨q,hq⟩:=exq (n+m*n);rw [←hq] at r0 ⊢;have R0:n≤q:=by omega
   clear hs b0 hg HX hd f0 d0 k0;have HQ:=za hq;have i1:(0:Int)< (q:Int):=by omega
   have i2:(n:Int)≤(q:Int):=by omega
   have i3:(n:Int)≤(c:Int):=by omega
   have i4:(0:Int)≤(n:Int):=by omega
   clear hq;have m0:Hid (∀g,u5.ownBlock=some g→w.heap.size≤g∧g< wr.heap.size):=za A0.z.lt;have HZ:Hid (∀cs y,Enc.rep (xV ze) (fun g=>X g∧g< w.heap.size) (wr.alloc (.cells #[] 31)) cs y→Enc.rep (xV ze) (fun g=>(Y g∧some g≠u5.ownBlock)∧some g≠(Value.slice (some ⟨wr.heap.size,0,none⟩) 0 0).ownBlock) (wr.alloc (.cells #[] 31)) cs y):=
    za (fun cs y hr=>Enc.more _ (G0.z _ _ _ hr) fun g _ hg=>⟨⟨hg.1,fun e=>by have:=m0.z g e.symm;have:=hg.2;omega⟩,fun e=>by simp [Value.ownBlock] at e;have:=hg.2;have:=HG.z.size;omega⟩)
   have J0:Hid (Sl (xV ze) (fun g=>X g∧g< w.heap.size) (wr.alloc (.cells #[] 31)) (.slice (some ⟨ga,oa,none⟩) n c) ((l.drop (j*n)).take n)):=za (H0.z.bounded.kept (HG.z.trans (gAl wr _ none)));have Q0:Hid ((([]:List (List Int)).length+((l.drop (j*n)).take n).length)*24≤140737488355328):=za (by rw [j0.z];simp;omega);have L0:Hid (∀g,(wr.alloc (.cells #[] 31)).heap.size≤g→Y g∧some g≠u5.ownBlock):=za (fun g hg=>⟨HY.z g (by have:=HG.z.size;simp at hg;omega),fun e=>by have:=m0.z g e.symm;simp at hg;omega⟩);go_wp2_with (at_builtin;refine xF rfl (.tmp 13) (.tmp 16) rfl (E:=(xV ze)) Zo (Acc.made _ wr 31 (nRf _) (fun g=>Y g∧some g≠u5.ownBlock) ⟨HY.z _ HG.z.size,fun e=>by have:=m0.z _ e.symm;omega⟩) rfl rfl J0.z HZ.z Q0.z (by simp) L0.z ?_);intro v1 w1 a0 q0 F0;obtain ⟨A1,c1,e1,_,_⟩:=a0.sl.form;rw [j0.z] at e1;subst e1;have Z0:=za a0;have n0:Hid (wr.grownBy w1 none):=za (zP (gAl wr _ none) q0 (fun g e=>by simp [Value.ownBlock] at e;omega));have l0:Hid (Enc.rep (xV (xV ze)) (fun g=>Y g∧some g≠u5.ownBlock) w1 [.slice A1 n c1] ((l.drop (j*n)).take n)):=za (by
    have C0:0< ((l.drop (j*n)).take n).length:=by rw [j0.z];omega
    exact ⟨_,rfl,a0.sl,a0.wr C0⟩)
   clear a0 q0 F0;have N0:Hid (((chk n l j).length+1)*24≤140737488355328):=za (by rw [P0.z];omega);have g0:=za (A0.z.kept n0.z);have v0:=za (HG.z.trans n0.z);have z0:Hid (w.heap.size≤w1.heap.size):=za v0.z.size;have K0:Hid (∀g,w1.heap.size≤g→Y g):=za (fun g hg=>HY.z g (nLT z0.z hg));go_wp2_with (at_builtin;refine zW rfl (.tmp 12) (.tmp 18) rfl (E:=xV (xV ze)) Xc g0.z rfl rfl l0.z N0.z z0.z K0.z ?_);intro v2 w2 c0 i0 D0;have u0:Hid (w.grownBy w2 none):=za (zP v0.z i0 (fun g e=>(g0.z.lt g e).1));have Y0:Hid (wr.grownBy w2 u5.ownBlock):=za ((xm n0.z).trans i0);have B0:Hid (Acc (xV (xV ze)) w.heap.size 43 Y w2 v2 (chk n l (j+1))):=za (by rw [I0.z];exact c0);clear c0 i0 D0;have HE:Hid (c=n→l.drop ((j+1)*n)= []):=za (fun U0=>O0.z (by
    rcases Nat.eq_zero_or_pos m with h|h
    ·exact h
    ·have:=Nat.mul_le_mul h (nRf n)
     have:=HQ.z
     omega))
   have o0:Hid (Sl (xV ze) X w (.slice (some ⟨ga,oa+n,none⟩) (q - n) (c - n)) (l.drop ((j+1)*n))):=za (by rw [HQ.z];exact y0.z);clear y0;go_wp2_with fail
   all_goals
    go_roundg m
    case measure=>omega
    case rel=>first|exact ⟨j+1,by omega,za ⟨o0.z,B0.z,u0.z⟩⟩|exact ⟨j+1,by omega,za ⟨by rw [HE.z (by assumption),show q - n=0 by omega];exact Sl.empty _ _ _ _ _ (by omega),B0.z,u0.z⟩⟩
theorem GP(v:Value)(l:List (Int×Int))(n k:Nat)(X Y:Nat→Prop)(w:World)(h:Sl zq X w v l)(hn:1≤n)(hl:l.length=k*n)(hb:l.length≤100000)(hY: ∀g,w.heap.size≤g→Y g)(t0: ∀cs y w',Enc.rep zq (fun g=>X g∧g< w.heap.size) w' cs y→Enc.rep zq (fun g=>Y g∧g< w.heap.size) w' cs y):
  Calls prog 224 #[v, .int .i64 n] w (zN (xV zq) Y w (chk n l k)):=by
 have hk:k≤100000:=by
  have:k*1≤k*n:=Nat.mul_le_mul_left k hn
  omega
 have p0:k≠0→n≤100000:=fun h0=>by
  have:1*n≤k*n:=Nat.mul_le_mul_right n (by omega)
  omega
 have HL:=za hl;have M0:=za p0;have HY:=za hY;have G0:=za t0;have k0:Hid (Sl zq X w v (l.drop (0*n))∧Acc (xV zq) w.heap.size 72 Y w (.slice none 0 0) (chk n l 0)∧w.grownBy w none):=za ⟨by simpa using h,Acc.nil _ _ _ _ _,gRr w none⟩;clear h hl p0 hY t0 hb;go_enter func224,ntmps224;go_wp2_with fail;go_loopg [0,5] k (fun g s0 s5 wx=> ∃j:Nat,j+g=k∧Hid (Sl zq X w s0 (l.drop (j*n))∧Acc (xV zq) w.heap.size 72 Y wx s5 (chk n l j)∧w.grownBy wx none))
 case atStart=>exact ⟨0,by omega,k0⟩
 case round=>
  obtain ⟨j,hj,HX⟩:=hrel;cases gk with
  |zero=>
   obtain rfl:j=k:=by omega
   obtain ⟨hs,b0,hg⟩:=HX.z;obtain ⟨A,c,rfl,_,_⟩:=hs.form;have h0:(l.drop (j*n)).length=0:=by rw [List.length_drop,HL.z];omega
   rw [h0];have HR:Hid (Sl (xV zq) Y wr u5 (chk n l j)):=za b0.sl;have HG:=za hg;clear hs b0 hg HX h0 k0;go_wp2;go_ret;exact ⟨_,rfl,HR.z,HG.z⟩
  |succ m=>
   obtain ⟨hs,b0,hg⟩:=HX.z;have d0:(j+1+m)*n=j*n+n+m*n:=by rw [Nat.add_mul,Nat.add_mul,Nat.one_mul]
   have f0:l.length=j*n+n+m*n:=by rw [HL.z, ←hj, ←d0];congr 1;omega
   have hd:(l.drop (j*n)).length=n+m*n:=by rw [List.length_drop];omega
   obtain ⟨A,c,e0,r0,V0⟩:=hs.form;subst e0;obtain ⟨ga,oa,eA,T0,_⟩:=hs.addr (by omega);subst eA;have H0:Hid (Sl zq X w (.slice (some ⟨ga,oa,none⟩) n c) ((l.drop (j*n)).take n)):=za (hs.take n (by omega));have y0:Hid (Sl zq X w (.slice (some ⟨ga,oa+n*2,none⟩) (n+m*n - n) (c - n)) (l.drop ((j+1)*n))):=za (by
    rw [hd] at hs
    have:=hs.drop n (by omega)
    rwa [List.drop_drop,show j*n+n=(j+1)*n by rw [Nat.add_mul,Nat.one_mul]] at this)
   have O0:Hid (m=0→l.drop ((j+1)*n)= []):=za (fun hm=>List.drop_eq_nil_of_le (by rw [f0,hm,Nat.add_mul];omega));have j0:Hid (((l.drop (j*n)).take n).length=n):=za (by rw [lLt,hd];omega);rw [hd] at r0 ⊢;have S0:n≤100000:=M0.z (by omega);have A0:=za b0;have HG:=za hg;have I0:=za (RN n l j);have P0:=za (zI n l j);obtain ⟨q,hq⟩:=exq (n+m*n);rw [←hq] at r0 ⊢;have R0:n≤q:=by omega
   clear hs b0 hg HX hd f0 d0 k0;have HQ:=za hq;have i1:(0:Int)< (q:Int):=by omega
   have i2:(n:Int)≤(q:Int):=by omega
   have i3:(n:Int)≤(c:Int):=by omega
   have i4:(0:Int)≤(n:Int):=by omega
   clear hq;have m0:Hid (∀g,u5.ownBlock=some g→w.heap.size≤g∧g< wr.heap.size):=za A0.z.lt;have HZ:Hid (∀cs y,Enc.rep zq (fun g=>X g∧g< w.heap.size) (wr.alloc (.cells #[] 153)) cs y→Enc.rep zq (fun g=>(Y g∧some g≠u5.ownBlock)∧some g≠(Value.slice (some ⟨wr.heap.size,0,none⟩) 0 0).ownBlock) (wr.alloc (.cells #[] 153)) cs y):=
    za (fun cs y hr=>Enc.more _ (G0.z _ _ _ hr) fun g _ hg=>⟨⟨hg.1,fun e=>by have:=m0.z g e.symm;have:=hg.2;omega⟩,fun e=>by simp [Value.ownBlock] at e;have:=hg.2;have:=HG.z.size;omega⟩)
   have J0:Hid (Sl zq (fun g=>X g∧g< w.heap.size) (wr.alloc (.cells #[] 153)) (.slice (some ⟨ga,oa,none⟩) n c) ((l.drop (j*n)).take n)):=za (H0.z.bounded.kept (HG.z.trans (gAl wr _ none)));have Q0:Hid ((([]:List (Int×Int)).length+((l.drop (j*n)).take n).length)*16≤140737488355328):=za (by rw [j0.z];simp;omega);have L0:Hid (∀g,(wr.alloc (.cells #[] 153)).heap.size≤g→Y g∧some g≠u5.ownBlock):=za (fun g hg=>⟨HY.z g (by have:=HG.z.size;simp at hg;omega),fun e=>by have:=m0.z g e.symm;simp at hg;omega⟩);go_wp2_with (at_builtin;refine xF rfl (.tmp 13) (.tmp 16) rfl (E:=zq) Xd (Acc.made _ wr 153 (nRf _) (fun g=>Y g∧some g≠u5.ownBlock) ⟨HY.z _ HG.z.size,fun e=>by have:=m0.z _ e.symm;omega⟩) rfl rfl J0.z HZ.z Q0.z (by simp) L0.z ?_);intro v1 w1 a0 q0 F0;obtain ⟨A1,c1,e1,_,_⟩:=a0.sl.form;rw [j0.z] at e1;subst e1;have Z0:=za a0;have n0:Hid (wr.grownBy w1 none):=za (zP (gAl wr _ none) q0 (fun g e=>by simp [Value.ownBlock] at e;omega));have l0:Hid (Enc.rep (xV zq) (fun g=>Y g∧some g≠u5.ownBlock) w1 [.slice A1 n c1] ((l.drop (j*n)).take n)):=za (by
    have C0:0< ((l.drop (j*n)).take n).length:=by rw [j0.z];omega
    exact ⟨_,rfl,a0.sl,a0.wr C0⟩)
   clear a0 q0 F0;have N0:Hid (((chk n l j).length+1)*24≤140737488355328):=za (by rw [P0.z];omega);have g0:=za (A0.z.kept n0.z);have v0:=za (HG.z.trans n0.z);have z0:Hid (w.heap.size≤w1.heap.size):=za v0.z.size;have K0:Hid (∀g,w1.heap.size≤g→Y g):=za (fun g hg=>HY.z g (nLT z0.z hg));go_wp2_with (at_builtin;refine zW rfl (.tmp 12) (.tmp 18) rfl (E:=xV zq) YJ g0.z rfl rfl l0.z N0.z z0.z K0.z ?_);intro v2 w2 c0 i0 D0;have u0:Hid (w.grownBy w2 none):=za (zP v0.z i0 (fun g e=>(g0.z.lt g e).1));have Y0:Hid (wr.grownBy w2 u5.ownBlock):=za ((xm n0.z).trans i0);have B0:Hid (Acc (xV zq) w.heap.size 72 Y w2 v2 (chk n l (j+1))):=za (by rw [I0.z];exact c0);clear c0 i0 D0;have HE:Hid (c=n→l.drop ((j+1)*n)= []):=za (fun U0=>O0.z (by
    rcases Nat.eq_zero_or_pos m with h|h
    ·exact h
    ·have:=Nat.mul_le_mul h (nRf n)
     have:=HQ.z
     omega))
   have o0:Hid (Sl zq X w (.slice (some ⟨ga,oa+n*2,none⟩) (q - n) (c - n)) (l.drop ((j+1)*n))):=za (by rw [HQ.z];exact y0.z);clear y0;go_wp2_with fail
   all_goals
    go_roundg m
    case measure=>omega
    case rel=>first|exact ⟨j+1,by omega,za ⟨o0.z,B0.z,u0.z⟩⟩|exact ⟨j+1,by omega,za ⟨by rw [HE.z (by assumption),show q - n=0 by omega];exact Sl.empty _ _ _ _ _ (by omega),B0.z,u0.z⟩⟩
theorem Xo(w:World)(n:Nat):((w.drewN n).alloc (Obj.cells #[.int .u64 0, .int .u64 0] 153)).cell? ⟨w.heap.size,0,none⟩=some (.int .u64 0)∧((w.drewN n).alloc (Obj.cells #[.int .u64 0, .int .u64 0] 153)).cell? ⟨w.heap.size,1,none⟩=some (.int .u64 0)∧
  ((w.drewN n).alloc (Obj.cells #[.int .u64 0, .int .u64 0] 153)).frozen? ⟨w.heap.size,0,none⟩=false∧((w.drewN n).alloc (Obj.cells #[.int .u64 0, .int .u64 0] 153)).frozen? ⟨w.heap.size,1,none⟩=false:=
 have h:Bk ((w.drewN n).alloc (Obj.cells #[.int .u64 0, .int .u64 0] 153)) w.heap.size 153 #[.int .u64 0, .int .u64 0]:=Bk.new (w.drewN n) _ _
 ⟨h.cell 0,h.cell 1,h.free 0,h.free 1⟩
def Zp(p:Par):Bool:=decide (0≤p.K) && decide (p.K≤2) && decide (0≤p.D) && decide (p.D≤4) && decide (0≤p.T) && decide (p.T≤2)
theorem xe(p:Par):Zp p=true↔0≤p.K∧p.K≤2∧0≤p.D∧p.D≤4∧0≤p.T∧p.T≤2:=by
 simp [Zp,and_assoc]
theorem Kx(p:Par)(w:World)(h:Zp p=true):Calls prog 198 #[p.v] w fun e w'=>e= .returned (.bool true)∧w.grownBy w' none:=by
 obtain ⟨a,b,c,d,e,f⟩:=(xe p).1 h;clear h;go_enter func198,ntmps198;go_wp2_with fail
 all_goals
  go_ret;exact ⟨rfl,gAl w _ none⟩
theorem Hp(p:Par)(w:World)(h:Zp p=false):Calls prog 198 #[p.v] w fun e w'=>e= .returned (.bool false)∧w.grownBy w' none:=by
 have hn: ¬(0≤p.K∧p.K≤2∧0≤p.D∧p.D≤4∧0≤p.T∧p.T≤2):=fun k=>by rw [(xe p).2 k] at h;cases h
 clear h;by_cases a:0≤p.K
 ·by_cases c:0≤p.D
  ·by_cases e:0≤p.T
   ·by_cases b:p.K≤2
    ·by_cases d:p.D≤4
     ·have f: ¬p.T≤2:=by omega
      clear hn;go_enter func198,ntmps198;go_wp2_with fail
      all_goals (first|(go_ret;exact ⟨rfl,gAl w _ none⟩)|(exfalso;omega))
     ·clear hn;go_enter func198,ntmps198;go_wp2_with fail
      all_goals (first|(go_ret;exact ⟨rfl,gAl w _ none⟩)|(exfalso;omega))
    ·clear hn;go_enter func198,ntmps198;go_wp2_with fail
     all_goals (first|(go_ret;exact ⟨rfl,gAl w _ none⟩)|(exfalso;omega))
   ·clear hn;go_enter func198,ntmps198;go_wp2_with fail
    all_goals (first|(go_ret;exact ⟨rfl,gAl w _ none⟩)|(exfalso;omega))
  ·clear hn;go_enter func198,ntmps198;go_wp2_with fail
   all_goals (first|(go_ret;exact ⟨rfl,gAl w _ none⟩)|(exfalso;omega))
 ·clear hn;go_enter func198,ntmps198;go_wp2_with fail
  all_goals (first|(go_ret;exact ⟨rfl,gAl w _ none⟩)|(exfalso;omega))
theorem JU{a b:Int}(h:a=b):Ending.returned (.int .i64 a)= .returned (.int .i64 b):=by rw [h]
def xY(p:Par):Int:=p.K*(p.D+1)
theorem Nu{p:Par}(h:Zp p=true):0≤xY p∧xY p≤10:=by
 obtain ⟨a,b,c,d,e,f⟩:=(xe p).1 h;have h1:p.K*(p.D+1)≤2*5:=Int.mul_le_mul b (by omega) (by omega) (by omega);have h2:0≤p.K*(p.D+1):=Int.mul_nonneg a (by omega);unfold xY;omega
theorem RL(p:Par)(w:World)(h:Zp p=true):Calls prog 97 #[p.v] w fun e w'=>e= .returned (.int .i64 (xY p))∧w.grownBy w' none:=by
 obtain ⟨a,b,c,d,e,f⟩:=(xe p).1 h;have HE:Hid (p.K*(p.D+1)=xY p):=za rfl;have h1:p.K*(p.D+1)≤2*5:=Int.mul_le_mul b (by omega) (by omega) (by omega);have h2:0≤p.K*(p.D+1):=Int.mul_nonneg a (by omega);clear h;go_enter func97,ntmps97;go_wp2_with fail;go_ret;exact ⟨JU HE.z,gAl w _ none⟩
theorem OC(v:Value)(a b:Int)(X:Nat→Prop)(w:World)(h:Sl ze X w v [a,b]):Calls prog 226 #[v] w fun e w'=>e= .returned (.agg #[.int .u64 a, .int .u64 b])∧w.grownBy w' none:=by
 have H:=za h;obtain ⟨A,c,rfl,hc1,hc2⟩:=h.form;obtain ⟨g,o,c',e,hg,_,h0,_⟩:=H.out.atU (k:=0) (by simp);injection e with e1 e2 e3
 subst e1 e3;obtain ⟨g',o',c'',e,_,_,h1,_⟩:=H.out.atU (k:=1) (by simp);injection e with e1 e2 e3
 injection e1 with e1
 injection e1 with e1 e4
 subst e1 e4;simp only [List.getElem_cons_zero,List.getElem_cons_succ,Nat.add_zero] at h0 h1;have h2:([a,b].length:Nat)=2:=rfl;rw [h2];have n0:=World.new_ne w _ h0;have n1:=World.new_ne w _ h1;have z0:=fun n=>(Xo w n).1
 have z1:=fun n=>(Xo w n).2.1
 have z2:=fun n=>(Xo w n).2.2.1
 have z3:=fun n=>(Xo w n).2.2.2
 clear h e2 e3 h2 hc1;go_enter func226,ntmps226;go_wp2_with fail;go_region_held3 (fun w'=>w'.cell? ⟨g,o,none⟩=some (.int .u64 a)∧w'.cell? ⟨g,o+1,none⟩=some (.int .u64 b)) (go_keep) (fail);go_wp2_with fail;refine bodyPost_ret (v:= .agg #[.int .u64 a, .int .u64 b]) (by simp [results,Tryz.results226,go_sem]) rfl ⟨rfl, ?_⟩;exact zf (gAl w _ none) 1
def xQ(l:List Int):Int×Int:=(l[0]?.getD 0,l[1]?.getD 0)
theorem Rx{α β:Type}(f:α→β)(l:List α)(j:Nat)(h:j< l.length):(l.take (j+1)).map f=(l.take j).map f++ [f l[j]]:=by
 rw [tSg h,lMa];rfl
theorem TC{X:Nat→Prop}{w:World}{v:Value}{l:List Int}(h:Sl ze X w v l)(h2:l.length=2):U64 (xQ l).1∧U64 (xQ l).2∧l= [(xQ l).1,(xQ l).2]:=by
 match l,h2 with
 | [a,b],_=>
  obtain ⟨_,_,_,_,_,_,_,u0⟩:=h.atU (k:=0) (by simp);obtain ⟨_,_,_,_,_,_,_,u1⟩:=h.atU (k:=1) (by simp);exact ⟨u0,u1,rfl⟩
theorem MI(v:Value)(l:List Int)(X:Nat→Prop)(w:World)(h:Sl ze X w v l)(h2:l.length=2):Calls prog 226 #[v] w fun e w'=>e= .returned (.agg #[.int .u64 (xQ l).1, .int .u64 (xQ l).2])∧w.grownBy w' none:=by
 obtain ⟨_,_,q⟩:=TC h h2;exact OC v _ _ X w (q ▸ h)
theorem JL(v:Value)(ls:List (List Int))(X:Nat→Prop)(w:World)(h:Sl (zh ze) X w v ls)(h2: ∀l∈ls,l.length=2)(hb:ls.length≤100000):
  Calls prog 225 #[v, .func (.func 226) #[] #[]] w (zN zq (fun g=>w.heap.size≤g) w (ls.map xQ)):=by
 have H:=za h;have H2:=za h2;have g0:Hid (Acc zq w.heap.size 153 (fun g=>w.heap.size≤g) w (.slice none 0 0) ((ls.take 0).map xQ)∧w.grownBy w none):=za ⟨Acc.nil _ _ _ _ _,gRr w none⟩;obtain ⟨A,c,rfl,t0,s0⟩:=h.form;clear h h2;go_enter func225,ntmps225;go_wp2_with fail;go_loopg [5,10] ls.length (fun g s5 s10 wx=> ∃j:Nat,j+g=ls.length∧s10= .int .i64 j∧Hid (Acc zq w.heap.size 153 (fun g=>w.heap.size≤g) wx s5 ((ls.take j).map xQ)∧w.grownBy wx none))
 case atStart=>exact ⟨0,by omega,rfl,g0⟩
 case round=>
  obtain ⟨j,hj,rfl,HX⟩:=hrel;cases gk with
  |zero=>
   obtain rfl:j=ls.length:=by omega
   have HR:Hid (Sl zq (fun g=>w.heap.size≤g) wr u5 (ls.map xQ)):=za (by have:=HX.z.1.sl;rwa [List.take_length] at this);have HG:=za HX.z.2;clear HX g0;go_wp2;go_ret;exact ⟨_,rfl,HR.z,HG.z⟩
  |succ m=>
   have q0:(j:Int)< (ls.length:Int):=by omega
   have f0:j< ls.length:=by omega
   obtain ⟨b0,hg⟩:=HX.z;obtain ⟨g,o,c',u,e,_,_,r0,c0⟩:=(H.out.kept hg).atS f0;injection e with e1 e2 e3
   subst e1 e3;obtain ⟨A1,c1,e1,_,_⟩:=c0.form;have d0:=H2.z _ (lGm f0);rw [d0] at e1;subst e1;obtain ⟨q1,q2,_⟩:=TC c0 d0;have l0:=za (Rx xQ ls j f0);have HF:=za (MI _ ls[j] X wr c0 d0);have i0:Hid (U64 (xQ ls[j]).1∧U64 (xQ ls[j]).2):=za ⟨q1,q2⟩;have o0:=za b0;have HG:=za hg;have m0:Hid ((((ls.take j).map xQ).length+1)*16≤140737488355328):=za (by simp;omega);clear b0 hg c0 e2 q1 q2 d0 HX g0;generalize xQ ls[j]=pj at *;go_wp2_with fail;refine HF.z.mono ?_;rintro e' w1 ⟨rfl,hg1⟩;have u0:=za hg1;have n0:=za (HG.z.trans hg1);have p0:=za (o0.z.kept hg1);clear hg1;go_wp2_with (at_builtin;refine zF rfl (.tmp 14) (.tmp 18) rfl (E:=zq) Xd n0.z p0.z (fun _ h=>h) ⟨rfl,i0.z⟩ m0.z rfl rfl ?_);intro v2 w2 a0 k0 _;have j0:Hid (Acc zq w.heap.size 153 (fun g=>w.heap.size≤g) w2 v2 ((ls.take (j+1)).map xQ)∧w.grownBy w2 none):=za ⟨by rw [l0.z];simpa using a0,k0⟩;clear a0 k0;go_wp2_with fail;go_roundg m
   case measure=>omega
   case rel=>exact ⟨j+1,by omega,by go_num,j0⟩
def Nz(l:List Int)(k:Nat):List (Int×Int):=(chk 2 l k).map xQ
theorem yv(l:List Int)(k:Nat):(Nz l k).length=k:=by simp [Nz,zI]
theorem xj(v:Value)(l:List Int)(k:Nat)(X:Nat→Prop)(w:World)(h:Sl ze X w v l)(hl:l.length=k*2)(hb:l.length≤100000):
  Calls prog 202 #[v] w (zN zq (fun g=>w.heap.size≤g) w (Nz l k)):=by
 have HC:=za (XN v l 2 k X (fun _=>True) w h (by decide) hl hb (fun _ _=>trivial) (fun _ _ _ h=>h));have HK:Hid (k≤100000):=za (by omega);have H2:Hid (∀x∈chk 2 l k,x.length=2):=za (fun x hx=>by
  obtain ⟨j,hj,rfl⟩:=List.mem_map.1 hx;have hj':j< k:=by simpa using hj
  rw [lLt,List.length_drop,hl];omega)
 clear h hl hb;go_enter func202,ntmps202;go_wp2_with fail;refine HC.z.mono ?_;rintro e w1 ⟨v1,rfl,hs,hg⟩;have HG:=za hg;have HE:=za (JL v1 (chk 2 l k) _ w1 hs.plain H2.z (by rw [zI];exact HK.z));clear hs hg;go_wp2_with fail;refine HE.z.mono ?_;rintro e w2 ⟨v2,rfl,hs,hg⟩;have HFIN:Hid (Sl zq (fun g=>w.heap.size≤g) w2 v2 (Nz l k)∧w.grownBy w2 none):=za ⟨hs.more (fun g _ hg'=>nLT HG.z.size hg'),HG.z.trans hg⟩;clear hs hg;go_wp2;go_ret;exact ⟨_,rfl,HFIN.z.1,HFIN.z.2⟩
end
section
open Go.RowKit
theorem Ns(a b m:Int)(hm:zO m=true):YQ a b m=(a - b)%m:=by
 simp only [YQ,hm,if_true];show Cg m (a%m+m - b%m) (a - b);refine Cg.sub ?_ (Cg.mod m b);unfold Cg;rw [Int.add_emod_right,Int.emod_emod_of_dvd _ (Int.dvd_refl m)]
theorem Kv(a b m:Int)(hm:zO m=true):0≤YQ a b m∧YQ a b m< m:=by
 rw [Ns a b m hm];simp [zO] at hm;exact yd _ _ hm.1
theorem yO(a b m:Int)(hm:zO m=true):xn a b m=(a+b)%m:=by
 simp only [xn,hm,if_true];exact (Cg.mod m a).add (Cg.mod m b)
theorem EY(a b m:Int)(hm:zO m=true):0≤xn a b m∧xn a b m< m:=by
 rw [yO a b m hm];simp [zO] at hm;exact yd _ _ hm.1
theorem XT(a b m:Int):U64 (xn a b m):=by
 cases hm:zO m with
 |false=>simp [xn,hm,U64]
 |true=>
  have:=EY a b m hm
  simp [zO] at hm;unfold U64;omega
theorem Ri(a b m:Int):U64 (YQ a b m):=by
 cases hm:zO m with
 |false=>simp [YQ,hm,U64]
 |true=>
  have:=Kv a b m hm
  simp [zO] at hm;unfold U64;omega
open Classical in
noncomputable def UF(a m:Int):Value:=if yi a m then .tuple #[.int .u64 (Qc a m), .int .i64 0] else .tuple #[.int .u64 0, .int .i64 5]
theorem MX{a m x:Int}(h:yi a m∧x=Qc a m): .tuple #[.int .u64 x, .int .i64 0]=UF a m:=by
 unfold UF;rw [if_pos h.1,h.2]
theorem Js{a m:Int}(h: ¬yi a m): .tuple #[.int .u64 0, .int .i64 5]=UF a m:=by
 unfold UF;rw [if_neg h]
theorem Ex(a m:Int)(w:World)(ha:U64 a)(hm:zO m=true):
  Calls prog 242 #[.int .u64 a, .int .u64 m] w fun e' w'=>e'= .returned (UF a m)∧ ∃n,w'=w.drewN n:=by
 have H:=Lib.hid hm;simp [zO] at hm;obtain ⟨hm0,hm1⟩:=hm;obtain ⟨e1,e2⟩:=yd 1 m hm0;obtain ⟨e3,e4⟩:=yd a m hm0;obtain ⟨ha0,ha1⟩:=ha;have HP:=Lib.hid (YC.start a m);go_enter func242,ntmps242;go_wp2_with (go_at_call 182;refine (UB _ _ H.out).mono ?_;rintro e w' ⟨rfl,rfl⟩);go_quiet (fail);go_wp2;go_quiet (fail);go_wp2_with fail;go_loopw [6,7,8,9] (fun sr ss sx sy wr=> ∃r s x y:Int,sr= .int .u64 r∧ss= .int .u64 s∧sx= .int .u64 x∧sy= .int .u64 y∧0< r∧r≤m∧0≤s∧s≤m∧0≤x∧x< m∧0≤y∧y< m∧Hid (YC a m r s x y)∧ ∃n,wr=w.drewN n) (fun _ ss _ _ _=>(intOf ss).toNat)
 case atStart=>exact ⟨_,_,_,_,rfl,rfl,rfl,rfl,by omega,by omega,by omega,by omega,by omega,by omega,by omega,by omega,HP,_,World.drewN_drewN _ _ _⟩
 case round=>
  obtain ⟨r,s,x,y,rfl,rfl,rfl,rfl,hr0,hr1,hs0,hs1,hx0,hx1,hy0,hy1,hp,n,rfl⟩:=hrel;by_cases h0:s=0
  ·subst h0;by_cases h1:r=1
   ·subst h1;have HR:=Lib.hid (MX (hp.out.yes hx0 hx1));go_wp2;go_ret2;exact ⟨congrArg Ending.returned HR.out,_,rfl⟩
   ·have h1':(r !=1)=true:=by simpa using h1
    have HR:=Lib.hid (Js (hp.out.no hr0 h1));clear h1;go_wp2;go_ret2;exact ⟨congrArg Ending.returned HR.out,_,rfl⟩
  ·have h0':(s !=0)=true:=by simpa using h0
   have q0:0≤r / s:=Int.ediv_nonneg (by omega) hs0;have q1:r / s≤r:=Int.ediv_le_self s (by omega);obtain ⟨b0,b1⟩:=yd r s (by omega);have HQ:Hid (U64 (r / s)):=Lib.hid ⟨q0,by omega⟩;have HY:Hid (U64 y):=Lib.hid ⟨hy0,by omega⟩;have HX:Hid (U64 x):=Lib.hid ⟨hx0,by omega⟩;have HM:=Lib.hid (yw (r / s) y m);have HS:=Kv x (zR (r / s) y m) m H.out;obtain ⟨z0,z1⟩:=HS;have HN:=Lib.hid (hp.out.next (z:=YQ x (zR (r / s) y m) m) (by rw [Ns x _ m H.out];exact (Cg.mod m _).trans ((Cg.refl m x).sub (Rv _ _ m H.out))));clear h0;go_wp2;go_quiet (fail);go_wp2_with fail;refine (ZG _ _ m _ HQ.out HY.out).mono ?_;rintro e w' ⟨rfl,n1,rfl⟩;go_wp2_with fail;refine (Ku _ _ m _ HX.out HM.out).mono ?_;rintro e w' ⟨rfl,n2,rfl⟩;go_wp2;go_roundw
   case rel=>exact ⟨_,_,_,_,rfl,rfl,rfl,rfl,by omega,by omega,by omega,by omega,by omega,by omega,by omega,by omega,HN,_,rfl⟩
   case measure=>simp [intOf];omega
end
section
open Go.RowKit
theorem Us(a e m:Int):U64 (YW a e m):=by
 cases hm:zO m with
 |false=>simp [YW,hm,U64]
 |true=>
  simp only [YW,hm,if_true];simp [zO] at hm
  have:=yd (a ^ e.toNat) m hm.1
  unfold U64;omega
theorem Sl.ofBk{w:World}{g:Nat}{t:TypeId}{l:List Int}(h:Bk w g t (nums l).toArray)(hu: ∀x∈l,U64 x)(hl:l.length≤9223372036854775807):Sl ze (fun _=>True) w (.slice (some ⟨g,0,none⟩) l.length l.length) l:=by
 refine ⟨_,_,rfl,nRf _,hl,fun _=>⟨g,0,rfl,h.lt,trivial,fun i hi=>⟨_,⟨rfl,hu _ (lGm hi)⟩,fun j u hj=> ?_⟩⟩⟩;have hj0:j=0:=by
  have:=(List.getElem?_eq_some_iff.1 hj).1
  simp at this;exact this
 subst hj0;simp at hj;subst hj;rw [h.cell];simp [nums,ze,hi]
theorem RP{w w':World}(hg:w.grownBy w' none){n:Nat}(hn:n≤w.heap.size): ∀b o,b< n→w'.cell? ⟨b,o,none⟩=w.cell? ⟨b,o,none⟩:=fun b o h=>World.cell?_of_block (hg.block b (by omega) (by simp))
theorem Na{w' W:World}{n:Nat}(h: ∀b o,b< n→w'.cell? ⟨b,o,none⟩=W.cell? ⟨b,o,none⟩)(hn:n≤w'.heap.size)(ob:Obj): ∀b o,b< n→(w'.alloc ob).cell? ⟨b,o,none⟩=W.cell? ⟨b,o,none⟩:=fun b o hb=>(World.cell?_alloc_lt w' ob ⟨b,o,none⟩ (by simp;omega)).trans (h b o hb)
theorem Qm(p:Par)(a b:Int)(w:World)(ha:U64 a)(hb:U64 b):
  Calls prog 143 #[p.v, .slice (some ⟨w.heap.size,0,none⟩) 2 2] (w.alloc (Obj.cells #[.int .u64 a, .int .u64 b] 22)) fun e w'=>e= .returned (.int .u64 (yh p.P [a,b]))∧w.grownBy w' none:=
 (Qn p _ [a,b] (fun _=>True) _ (Sl.ofBk (t:=22) (Bk.new w 22 (nums [a,b]).toArray) (by intro y hy;simp at hy;rcases hy with rfl|rfl<;>assumption) (by simp))).mono fun _ _ ⟨he,hg⟩=>⟨he,(gAl w _ none).trans hg⟩
theorem Ue(p:Par)(w:World):
  Calls prog 143 #[p.v, .slice none 0 0] w fun e w'=>e= .returned (.int .u64 (yh p.P []))∧w.grownBy w' none:=
 Qn p _ [] (fun _=>True) w (Sl.nil _ _ _)
theorem Xx(p:Par)(x e:Int)(w:World)(hx:U64 x)(he:U64 e):
  Calls prog 140 #[p.v, .int .u64 x, .int .u64 e] w fun e' w'=>e'= .returned (.int .u64 (YW x e p.P))∧w.grownBy w' none:=by
 go_enter func140,ntmps140;go_wp2_with fail;refine (KN x e p.P _ hx he).mono ?_;rintro e w' ⟨rfl,n,rfl⟩;go_wp2;go_ret;exact ⟨rfl,zf (gAl w _ none) n⟩
def zj(p:Par)(x:Int×Int):Int:=yh p.P [YW p.G x.1 p.P,YW p.H x.2 p.P]
theorem ZS(p:Par)(x:Int×Int)(w:World)(hp:p.ok)(h1:U64 x.1)(h2:U64 x.2):
  Calls prog 95 #[p.v, .agg #[.int .u64 x.1, .int .u64 x.2]] w fun e' w'=>e'= .returned (.int .u64 (zj p x))∧w.grownBy w' none:=by
 have HG:Hid (U64 p.G):=za hp.G;have HH:Hid (U64 p.H):=za hp.H;have H1:=za h1;have H2:=za h2;have HU:=za (Us p.G x.1 p.P);have HL:=za (Us p.H x.2 p.P);clear hp h1 h2;go_enter func95,ntmps95;go_wp2_with fail;go_region_held3 (fun w'=> ∀b o,b< w.heap.size+2→w'.cell? ⟨b,o,none⟩=((w.alloc (Obj.cells p.cells 39)).alloc (Obj.cells #[.int .u64 x.1, .int .u64 x.2] 153)).cell? ⟨b,o,none⟩) (first|assumption|exact Na (by assumption) (by assumption) _|go_keep)
  (first
  |(go_at_call 140;(with_reducible refine (Xx p p.G x.1 _ HG.z H1.z).mono ?_);rintro e w1 ⟨rfl,hg⟩;have HG1:=za hg;have hc1:=RP (n:=w.heap.size+2) hg (by simp);clear hg)
  |(go_at_call 140;(with_reducible refine (Xx p p.H x.2 _ HH.z H2.z).mono ?_);rintro e w2 ⟨rfl,hg⟩;have HG2:=za (HG1.z.trans hg);have hc2:=RP (n:=w.heap.size+2) HG2.z (by simp);have hs2:w.heap.size+2≤w2.heap.size:=nLT (by simp) HG2.z.size;clear hg)
  |(go_at_call 143;(with_reducible refine (Qm p _ _ w2 HU.z HL.z).mono ?_);rintro e w3 ⟨rfl,hg⟩;have HG3:=za (HG2.z.trans hg);have hc3:=RP (n:=w.heap.size+2) HG3.z (by simp);clear hg))
 go_wp2;go_ret;exact ⟨rfl,((gAl w _ none).trans (gAl _ _ none)).trans (zf gRf 1|>.trans HG3.z)⟩
def isB(p:Par)(x:Int):Bool:=decide (1≤x) && decide (x< p.P) && YW x p.Q p.P==1
theorem Jq(p:Par)(x:Int)(w:World)(hp:p.ok)(h1:U64 x):
  Calls prog 83 #[p.v, .int .u64 x] w fun e' w'=>e'= .returned (.bool (isB p x))∧w.grownBy w' none:=by
 have HQ:Hid (U64 p.Q):=za hp.Q;have H1:=za h1;clear hp h1;by_cases ha:1≤x
 ·by_cases hb:x< p.P
  ·have HE:Hid (isB p x=(YW x p.Q p.P==1)):=za (by simp [isB,ha,hb]);go_enter func83,ntmps83;go_wp2_with fail;refine (Xx p x p.Q _ H1.z HQ.z).mono ?_;rintro e w1 ⟨rfl,hg⟩;have HG:=za hg;clear hg;go_wp2;go_ret;exact ⟨zn HE.z.symm,(gAl w _ none).trans HG.z⟩
  ·have HE:Hid (isB p x=false):=za (by simp [isB,hb]);have hb':decide (x< p.P)=false:=by simpa using hb
   clear hb;go_enter func83,ntmps83;go_wp2_with fail;go_ret;exact ⟨zn HE.z.symm,gAl w _ none⟩
 ·have HE:Hid (isB p x=false):=za (by simp [isB,ha]);go_enter func83,ntmps83;go_wp2_with fail;go_ret;exact ⟨zn HE.z.symm,gAl w _ none⟩
def Mg(p:Par)(i:Int):List Int→Int→Int→Int
 | [],x,_=>x
 |y::l,x,e=>Mg p i l (yh p.P [x,YW y e p.P]) (zR e i p.Q)
def atI(p:Par)(l:List Int)(i:Int):Int:=Mg p i l (yh p.P []) (zR 1 1 p.Q)
theorem Iv(p:Par)(i:Int)(l:List Int)(j:Nat)(h:j< l.length)(x e:Int):Mg p i (l.drop j) x e=Mg p i (l.drop (j+1)) (yh p.P [x,YW l[j] e p.P]) (zR e i p.Q):=by
 rw [List.drop_eq_getElem_cons h];rfl
theorem Cc(p:Par)(v:Value)(l:List Int)(i:Int)(X:Nat→Prop)(w:World)(h:Sl ze X w v l)(hi:U64 i):
  Calls prog 92 #[p.v,v, .int .u64 i] w fun e' w'=>e'= .returned (.int .u64 (atI p l i))∧w.grownBy w' none:=by
 have H:=za h;have HI:=za hi;obtain ⟨A,c,rfl,h1,h2⟩:=h.form;clear h hi;go_enter func92,ntmps92;go_wp2_with fail;refine (Ue p _).mono ?_;rintro e w1 ⟨rfl,hg⟩;have HG:=za hg;have HB:Hid (Bk w1 w.heap.size 39 p.cells):=za ((Bk.new w _ _).grown hg (by simp));have hc1:=HB.z.prule;clear hg;go_wp2_with fail;refine (ZG 1 1 p.Q _ (by decide) (by decide)).mono ?_;rintro e w' ⟨rfl,n,rfl⟩;have HS:Hid (U64 (yh p.P [])∧U64 (zR 1 1 p.Q)∧w.grownBy (w1.drewN n) none∧Bk (w1.drewN n) w.heap.size 39 p.cells∧Mg p i (l.drop 0) (yh p.P []) (zR 1 1 p.Q)=atI p l i):=
  za ⟨xf _ _,yw _ _ _,zf ((gAl w _ none).trans HG.z) n,HB.z.drewN n,rfl⟩
 clear HB HG hc1;go_wp2_with fail;go_loopg [7,8,18] l.length (fun g sx se si wx=> ∃(j:Nat) (x e:Int),j+g=l.length∧si= .int .i64 j∧sx= .int .u64 x∧se= .int .u64 e∧Hid (U64 x∧U64 e∧w.grownBy wx none∧Bk wx w.heap.size 39 p.cells∧Mg p i (l.drop j) x e=atI p l i))
 case atStart=>exact ⟨0,_,_,by omega,rfl,rfl,rfl,HS⟩
 case round=>
  obtain ⟨j,x,e,hj,rfl,rfl,rfl,HX⟩:=hrel;cases gk with
  |zero=>
   obtain rfl:j=l.length:=by omega
   have HE:Hid (x=atI p l i):=za (by have:=HX.z.2.2.2.2;rwa [List.drop_length] at this);have HGG:=za HX.z.2.2.1;clear HX;go_wp2;go_ret;exact ⟨Ov HE.z,HGG.z⟩
  |succ k=>
   have hjn:(j:Int)< (l.length:Int):=by omega
   have hjN:j< l.length:=by omega
   obtain ⟨hx,he,hg,hb,hs⟩:=HX.z;obtain ⟨g,o,c',e',_,_,hc,hu⟩:=(H.out.kept hg).atU hjN;injection e' with e1 e2 e3
   subst e1 e3;have hp:=hb.prule;rw [Iv p i l j hjN] at hs;have HS:=za hs;have HXu:=za hx;have HEu:=za he;have HU:=za hu;have HGr:=za hg;have HBk:=za hb;generalize l[j]=y at *;clear hx he hg hb hs hu e2 HX;go_wp2_with fail;go_region_held3 (fun w'=> ∀o,w'.cell? ⟨w.heap.size,o,none⟩=(#[.int .u64 p.P, .int .u64 p.Q, .int .u64 p.G, .int .u64 p.H, .int .i64 p.Nodes, .int .i64 p.N, .int .i64 p.T, .int .i64 p.K, .int .i64 p.D, .int .i64 p.R, .int .i64 p.M, .int .i64 p.X]:Array Value)[o]?) (first|assumption|exact xh (by assumption) (by assumption) _|go_keep)
    (first
    |(go_at_call 140;(with_reducible refine (Xx p y e _ HU.z HEu.z).mono ?_);rintro e' w2 ⟨rfl,hg⟩;have HG2:=za hg;have HB2:=za ((HBk.z.drewN 1).grown hg (by simp));have hp2:=HB2.z.prule;have hs2:=HB2.z.lt;clear hg)
    |(go_at_call 143;(with_reducible refine (Qm p x (YW y e p.P) w2 HXu.z (Us y e p.P)).mono ?_);rintro e' w3 ⟨rfl,hg⟩;have HG3:=za hg;have HB3:=za (HB2.z.grown hg (by simp));have hp3:=HB3.z.prule;clear hg))
   go_wp2_with fail;refine (ZG e i p.Q _ HEu.z HI.z).mono ?_;rintro e' w' ⟨rfl,n',rfl⟩;go_wp2;go_roundg k
   case measure=>omega
   case rel=>exact ⟨j+1,_,_,by omega,by go_num,rfl,rfl,za ⟨xf _ _,yw _ _ _,zf ((HGr.z.trans (zf (gRr wr none) 1)).trans (HG2.z.trans HG3.z)) n',HB3.z.drewN n',HS.z⟩⟩
end
section
open Go
section
variable {P:Program} {ops:Array Oper} {Q:Exit→Act→World→Prop} {n:Nat} {a0:Act} {w0:World}
def PS(u:Value)(dst:Option Tmp)(ds:List Deferred)(K:World→Prop):Exit→Act→World→Prop:=fun e a' w'=>e= .normal∧a'.defers=ds∧(match dst with|some d=>a'.eval (.tmp d)|none=>undef)=u∧K w'
def Yj(P:Program)(ops:Array Oper)(n:Nat)(a0:Act)(C:Array Bool→World→Prop)(us:List Value):Nat→Nat→List Oper→Prop
 |0,_,_=>True
 |_+1,_, []=>False
 |k+1,i,o::os=>(∃js:List (Nat×Tmp),(yo ops i js && yf ops n i js)=true∧ ∀D w,D.size=ops.size→D.getD i false=false→(∀k,av ops i n k=false→D.getD k false=false)→C D w→Ask P ops (us.map Pv.eq) (PS (us.getD i undef) o.dst a0.defers (C (D.setIfInBounds i true))) o w js a0)∧Yj P ops n a0 C us k (i+1) os
theorem Yj.out{C:Array Bool→World→Prop}{us:List Value}: ∀{k i:Nat} {os:List Oper},Yj P ops n a0 C us k i os→ ∀m o,m< k→os[m]? =some o→ ∃js:List (Nat×Tmp),(yo ops (i+m) js && yf ops n (i+m) js)=true∧ ∀D w,D.size=ops.size→D.getD (i+m) false=false→(∀k,av ops (i+m) n k=false→D.getD k false=false)→C D w→Ask P ops (us.map Pv.eq) (PS (us.getD (i+m) undef) o.dst a0.defers (C (D.setIfInBounds (i+m) true))) o w js a0
 |0,_,_,_,m,o,hm,_=>by omega
 |_+1,_, [],h,_,_,_,_=>h.elim
 |k+1,i,o::os,h,m,o',hm,ho=>by
  cases m with
  |zero=>
   obtain rfl:o=o':=by simpa using ho
   exact h.1
  |succ m=>
   have:=Yj.out h.2 m o' (by omega) (by simpa using ho)
   rwa [show i+1+m=i+(m+1) by omega] at this
theorem Yj.step{C:Array Bool→World→Prop}{us:List Value}{k i:Nat}{o:Oper}{os:List Oper}(js:List (Nat×Tmp))(hc:(yo ops i js && yf ops n i js)=true)(hA: ∀D w,D.size=ops.size→D.getD i false=false→(∀k,av ops i n k=false→D.getD k false=false)→C D w→Ask P ops (us.map Pv.eq) (PS (us.getD i undef) o.dst a0.defers (C (D.setIfInBounds i true))) o w js a0)(h:Yj P ops n a0 C us k (i+1) os):Yj P ops n a0 C us (k+1) i (o::os):=⟨⟨js,hc,hA⟩,h⟩
structure BT (ops:Array Oper) (n:Nat) (a0:Act) (C:Array Bool→World→Prop) (us:List Value) (D:Array Bool) (a:Act) (w:World):Prop where
 head:HeadInv .any ops n D
 cls:C D w
 tsize:a.tmps.size=a0.tmps.size
 defers:a.defers=a0.defers
 rest: ∀t,(∀j,j< n→D.getD j false=true→zY ops j≠some t)→a.tmps[t]? =a0.tmps[t]?
 known: ∀j u,D.getD j false=true→us[j]? =some u→Rb (zY ops j) a=u
theorem Xq{u:Value}{dst:Option Tmp}{ds:List Deferred}{K:World→Prop}: ¬LetsOut (PS u dst ds K):=by
 rintro ⟨a,w',e,_⟩;cases e
theorem Hf{u:Value}{K:World→Prop}{o:Oper}{a b:Act}{w:World}(hs: ∀cs b,o.op≠ .select cs b)(hd: ∀d,o.dst=some d→d< a.tmps.size)(hsz:b.tmps.size=a.tmps.size)(hlook: ∀t∈o.looksAt ops,b.tmps[t]? =a.tmps[t]?){i:Nat}(hi:ops[i]? =some o)
  (hdf:b.defers=a0.defers) (h:wpList P ops (PS u o.dst a0.defers K) [o] b w):wpOp P ops Q i (fun a' w'=> ∃v,a'=a.put o.dst v∧(match o.dst with|some _=>v|none=>undef)=u∧K w') a w:=by
 have hex:execOp b.eval o=execOp a.eval o:=execOp_congr o hs fun x hx=>by
  cases x with
  |tmp t=>exact Yz _ _ _ (hlook t (mAl _ (List.mem_filterMap.2 ⟨.tmp t,by simpa using hx,rfl⟩)))
  |_=>rfl
 have hwn:Region.wanted o (yielded ops b.tmps)=Region.wanted o (yielded ops a.tmps):=by
  unfold Region.wanted;cases hg:o.guard with
  |none=>rfl
  |some gw=>
   obtain ⟨g,want⟩:=gw;have hy:yielded ops b.tmps g=yielded ops a.tmps g:=by
    unfold yielded;cases ht:(ops[g]?).bind (·.dst) with
    |none=>rfl
    |some t=>simp only [Option.bind_some,hlook t (by simp [Oper.looksAt,hg,ht])]
   simp only [hy]
 have fin: ∀v w',PS u o.dst a0.defers K .normal (b.put o.dst v) w'→ ∃v',a.put o.dst v=a.put o.dst v'∧(match o.dst with|some _=>v'|none=>undef)=u∧K w':=by
  rintro v w' ⟨_,_,h1,h2⟩;refine ⟨v,rfl, ?_,h2⟩;cases hdd:o.dst with
  |none=>rw [hdd] at h1;exact h1
  |some d=>
   rw [hdd] at h1;have hlt:=hd d hdd
   have:(b.put (some d) v).eval (.tmp d)=v:=by simp [Act.put,Act.eval,Array.getD_eq_getD_getElem?,hsz,hlt]
   simp only [this] at h1;exact h1
 unfold wpOp;simp only [hi];simp only [wpList,hwn] at h;split
 ·rename_i hw;rw [if_pos hw] at h;rcases h with h|h
  ·left;unfold Oper.wp at h ⊢;rw [hex] at h;generalize (execOp a.eval o).run P w=r at *;cases r with
   |ok x w'=>
    cases x with
    |value v=>exact fin v w' h
    |skip=>exact fin undef w' h
    |enter f args=>
     refine Calls.mono h fun e w'' he=> ?_
     cases e with
     |returned u=>exact fin u w'' he
     |panicked c=>exact absurd he.1 (by simp)
     |outgrown=>exact absurd he Xq
    |row row args=>exact Rows.mono h fun u w'' he=>fin u w'' he
    |defer d=>
     obtain ⟨_,h1,_⟩:=h;have h1:(Act.put {b with defers:=d::b.defers} o.dst undef).defers=a0.defers:=h1;rw [yN, ←hdf] at h1;exact absurd (congrArg List.length h1) (by simp)
    |_=>exact h.elim
   |halt x w'=>
    cases x with
    |panic v=>exact absurd h.1 (by simp)
    |_=>exact h.elim
  ·exact absurd h.2 Xq
 ·rename_i hw;rw [if_neg hw] at h;exact fin undef w h
theorem JF{C:Array Bool→World→Prop}{us:List Value}{D:Array Bool}{a a':Act}{w w':World}{i:Nat}{o:Oper}{v:Value}(inv:BT ops n a0 C us D a w)(hd:JX ops n a0.tmps.size=true)(hi:i∈Region.ready .any ops D)(hin:i< n)(ho:ops[i]? =some o)(hnl:us.length≤n)
  (ha:a'=a.put o.dst v) (hv:(match o.dst with|some _=>v|none=>undef)=us.getD i undef) (hg:C (D.setIfInBounds i true) w'):BT ops n a0 C us (D.setIfInBounds i true) a' w':=by
 subst ha;have hdi:zY ops i=o.dst:=by simp [zY,ho]
 have hun:D.getD i true=false:=(mem_ready.1 hi).1;have hlt:i< D.size:=by
  rcases Nat.lt_or_ge i D.size with h'|h'
  ·exact h'
  ·simp [Array.getElem?_eq_none h'] at hun
 refine ⟨inv.head.set hi hin,hg,(YD _ _ _).trans inv.tsize,(yN _ _ _).trans inv.defers,fun t ht=> ?_,fun j W hj hW=> ?_⟩
 ·have h1:o.dst≠some t:=fun e=>ht i hin (by simp [hlt]) (hdi.trans e)
  refine Eq.trans ?_ (inv.rest t fun j hj hD=>ht j hj (getD_set_true hD));cases hdd:o.dst with
  |none=>rfl
  |some d=>exact Xv _ _ _ _ (fun e=>h1 (by rw [hdd,e]))
 ·by_cases e:i=j
  ·subst e;have hWe:us.getD i undef=W:=by rw [List.getD_eq_getElem?_getD,hW];rfl
   rw [hWe] at hv;rw [hdi];cases hdd:o.dst with
   |none=>rw [hdd] at hv;exact hv
   |some d=>
    rw [hdd] at hv;have hds:=zg hd hin;rw [hdi,hdd] at hds;simp only [Bool.and_eq_true,decide_eq_true_eq] at hds
    have:(a.put (some d) v).eval (.tmp d)=v:=by simp [Act.put,Act.eval,Array.getD_eq_getD_getElem?,inv.tsize,hds.1]
    show (a.put (some d) v).eval (.tmp d)=W;rw [this];exact hv
  ·have hjn:j< n:=by have:=(List.getElem?_eq_some_iff.1 hW).1;omega
   rw [getD_set_ne false e] at hj;have h1:=inv.known j W hj hW;cases hdj:zY ops j with
   |none=>rw [hdj] at h1;exact h1
   |some dj=>
    rw [hdj] at h1;have h1:a.eval (.tmp dj)=W:=h1;show (a.put o.dst v).eval (.tmp dj)=W;cases hdd:o.dst with
    |none=>exact h1
    |some d=>
     have hds:=zg hd hin;rw [hdi,hdd] at hds;simp only [Bool.and_eq_true,decide_eq_true_eq] at hds;have h2:=zg hds.2 hjn;simp only [Bool.or_eq_true,beq_iff_eq,bne_iff_ne,ne_eq] at h2;have h3:d≠dj:=fun e'=>(h2.resolve_left (fun e2=>e e2.symm)) (by rw [hdj,e'])
     rw [Yz _ a dj (Xv a d dj v h3)];exact h1
theorem Mo{l:List Oper}(n:Nat)(C:Array Bool→World→Prop)(us:List Value)(hB:Yd l.toArray n a0.tmps.size=true)(q0:us.length=n)(x0:C (Array.replicate l.toArray.size false) w0)
  (h:Yj P l.toArray n a0 C us n 0 l) (hF: ∀D w,(∀i,i< n→D.getD i false=true)→C D w→IG P l.toArray Q w (us.map Pv.eq) l a0):wpAny P .any l.toArray Q l.toArray.size (Array.replicate l.toArray.size false) a0 w0:=by
 simp only [Yd,Bool.and_eq_true,decide_eq_true_eq] at hB;obtain ⟨⟨⟨⟨s0,hn⟩,d0⟩,c0⟩,f0⟩:=hB;simp only [Mv,Bool.and_eq_true] at d0;obtain ⟨z0,r0⟩:=d0;have E0:n≤l.length:=by simpa using hn
 have N0:(l.take n).length=n:=by simp;omega
 have X0:us.length=n:=q0;have J0:(l.drop n).length=l.toArray.size - n:=by simp
 have D0: ∀i o,i< n→l.toArray[i]? =some o→(l.take n)[i]? =some o:=fun i o hi ho=>by
  rw [List.getElem?_take,if_pos hi];simpa using ho
 have K0: ∀m D a w,BT l.toArray n a0 C us D a w→cnt D n=m→wpAny P .any l.toArray Q (m+(l.toArray.size - n)) D a w:=by
  intro m;induction m with
  |zero=>
   intro D a w inv hc;have b0:=xv hc;have hD:D=Array.replicate n true++Array.replicate (l.toArray.size - n) false:=by
    have O0:=inv.head.size;refine Array.ext (by simp [O0];omega) fun i h1 h2=> ?_
    rw [Array.getElem_append];by_cases hi:i< n
    ·have:=b0 i hi
     simp [h1] at this;simp [hi,this]
    ·have:=inv.head.tail i (by omega) (by omega)
     simp [h1] at this;simp [hi,this]
   have u0:(us.map Pv.eq).length=(l.take n).length:=by rw [lLm,q0,N0]
   have hk: ∀(k:Nat) (V:Pv) (o:Oper),(us.map Pv.eq)[k]? =some V→(l.take n)[k]? =some o→V.p (match o.dst with|some d=>a.eval (.tmp d)|none=>undef) w:=by
    intro k V o hv ho;rw [List.getElem?_map] at hv;obtain ⟨u,hu,rfl⟩:=Option.map_eq_some_iff.1 hv;have F0:k< n:=by have:=(List.getElem?_eq_some_iff.1 hu).1;omega
    have h1:=inv.known k u (b0 k F0) hu;have h2:zY l.toArray k=o.dst:=by
     have:l[k]? =some o:=by rw [List.getElem?_take,if_pos F0] at ho;exact ho
     simp [zY,this]
    rw [h2] at h1;refine Eq.trans ?_ h1;unfold Rb;cases o.dst<;>rfl
   have n0:=IG.cut (Vs:=us.map Pv.eq) (os:=l) (by rw [lLm];omega) (hF D w b0 inv.cls);rw [show (us.map Pv.eq).length=n by rw [lLm];exact q0] at n0;have m0:=IH.all u0 hk n0;have i0:Oa a ((l.take n).map (·.dst)) a0=a:=by
    refine Tb (fun t=>Zn a t _ _ inv.tsize.symm ?_) ((yn _ _ _).trans inv.defers.symm);by_cases ht:some t∈(l.take n).map (·.dst)
    ·exact .inl ht
    ·refine .inr (inv.rest t fun j hj _ e=>ht ?_).symm;have H0:j< l.length:=by omega
     have:l[j].dst=some t:=by simpa [zY,H0] using e
     exact List.mem_map.2 ⟨l[j],List.mem_iff_getElem?.2 ⟨j,by rw [List.getElem?_take,if_pos hj,List.getElem?_eq_getElem H0]⟩,this⟩
   rw [i0] at m0
   have:=wpAny_of_seq (md:= .any) (Q':=Q) (l.drop n) n D a w (fun j=>by simp [List.getElem?_drop]) (by rw [J0,hD];exact r0) m0
   rw [J0] at this
   rwa [Nat.zero_add]
  |succ m ih=>
   intro D a w inv hc;have g0: ∀i∈Region.ready .any l.toArray D,i< n:=by
    intro i hi;rcases Nat.lt_or_ge i n with h'|h'
    ·exact h'
    ·obtain ⟨hu,oi,C0,b0⟩:=mem_ready.1 hi;have S0:i< l.toArray.size:=(Array.getElem?_eq_some_iff.1 C0).1;exfalso;obtain ⟨k,hk,v0⟩: ∃k,k< n∧D.getD k false=false:=by
      refine Classical.byContradiction fun Q0=> ?_
      have: ∀k,k≤n→cnt D k=0:=by
       intro k;induction k with
       |zero=>intro _;rfl
       |succ k ihk=>
        intro hk;have h1:D.getD k false=true:=by
         refine Classical.byContradiction fun hx=>Q0 ⟨k,by omega,by simpa using hx⟩
        simp only [cnt,h1,ihk (by omega)];rfl
      rw [this n (nRf _)] at hc;omega
     have hb:=zg z0 S0;simp only [Bool.or_eq_true,decide_eq_true_eq] at hb;have hb:=zg (hb.resolve_left (by omega)) hk;simp only [Bool.not_eq_true'] at hb;have I0:i≠k:=by omega
     have:av l.toArray k n i=true:=by
      have e0:=fun f j hj=>PF (ops:=l.toArray) inv.head.closed inv.head.size v0 f j hj
      cases W0:n with
      |zero=>simp [av,I0]
      |succ f=>
       simp only [av,C0,Option.map_some,Option.getD_some,Bool.and_eq_true,bne_iff_ne];refine ⟨I0, ?_⟩;rw [Array.all_eq_true_iff_forall_mem];intro e he;by_cases B0:Region.binds .any e=true
       ·simp [B0,e0 f e.on (b0 e he B0)]
       ·simp [B0]
     rw [hb] at this;cases this
   have R0:Region.ready .any l.toArray D≠ []:=by
    have U0: ∃k,k< n∧D.getD k false=false∧ ∀j,j< k→D.getD j false=true:=by
     have: ∀k,k≤n→(∃q,q< k∧D.getD q false=false∧ ∀j,j< q→D.getD j false=true)∨(cnt D k=0):=by
      intro k;induction k with
      |zero=>intro _;exact .inr rfl
      |succ k ihk=>
       intro hk;rcases ihk (by omega) with ⟨q,h1,h2⟩|h0
       ·exact .inl ⟨q,by omega,h2⟩
       ·cases hq:D.getD k false with
        |true=>right;simp only [cnt,hq,h0];rfl
        |false=>exact .inl ⟨k,by omega,hq,xv h0⟩
     rcases this n (nRf _) with ⟨q,h1,h2⟩|h0
     ·exact ⟨q,h1,h2⟩
     ·omega
    obtain ⟨k,hk,v0,A0⟩:=U0;have G0:k< l.toArray.size:=by omega
    have ho:l.toArray[k]? =some l.toArray[k]:=Array.getElem?_eq_getElem G0
    have:k∈Region.ready .any l.toArray D:=by
     refine mem_ready.2 ⟨getD_in (by rw [inv.head.size];exact G0) v0,_,ho,fun e he hb=>A0 _ ?_⟩;have ht:=zg c0 hk;simp only [ho,Option.map_some,Option.getD_some] at ht
     have:=Array.all_eq_true_iff_forall_mem.1 ht e he
     simpa [hb] using this
    intro e;rw [e] at this;cases this
   rw [show m+1+(l.toArray.size - n)=(m+(l.toArray.size - n))+1 by omega];refine ⟨fun e=>absurd e R0,fun i hi=> ?_⟩;have l0:=g0 i hi;obtain ⟨hu,o,ho,b0⟩:=mem_ready.1 hi;obtain ⟨js,o0,p0⟩:=Yj.out h i o l0 (by simpa using ho);simp only [Nat.zero_add,Bool.and_eq_true] at o0 p0;obtain ⟨j0,k0⟩:=o0;have y0: ∀d,o.dst=some d→d< a.tmps.size:=by
    intro d hd
    have:=zg f0 l0
    have h2:zY l.toArray i=some d:=by simp only [zY,ho];exact hd
    rw [h2] at this;simp only [Bool.and_eq_true,decide_eq_true_eq] at this;rw [inv.tsize];exact this.1
   have T0: ∀x:Nat×Tmp,x∈js→zY l.toArray x.1=some x.2∧D.getD x.1 false=true∧x.1< i:=by
    intro x hx
    have:=List.all_eq_true.1 j0 x hx
    simp only [Bool.and_eq_true,beq_iff_eq] at this;obtain ⟨oj,t0,e,he,hb,i0⟩:=Region.waitsFor_spec this.2;obtain rfl:o=oj:=Option.some.inj (ho.symm.trans t0);have ht:=zg c0 l0;simp only [ho,Option.map_some,Option.getD_some] at ht;have ht:=Array.all_eq_true_iff_forall_mem.1 ht e he;simp only [hb,Bool.not_true,Bool.false_or,decide_eq_true_eq] at ht;exact ⟨this.1,by rw [←i0];exact b0 e he hb,by rw [←i0];exact ht⟩
   have hA:=p0 D w inv.head.size (getD_both hu) (fun k hk=>by
    cases Y0:D.getD k false with
    |false=>rfl
    |true=>rw [PF (ops:=l.toArray) inv.head.closed inv.head.size (getD_both hu) n k Y0] at hk;cases hk) inv.cls
   have hW:=Ask.all (b:=a) (fun x hx=>by
    obtain ⟨h1,h2,h3⟩:=T0 x hx;have M0:x.1< us.length:=by omega
    have h4:us[x.1]? =some us[x.1]:=List.getElem?_eq_getElem M0;have h5:=inv.known x.1 _ h2 h4;rw [h1] at h5
    have:(us.map Pv.eq).getD x.1 Pv.any=Pv.eq us[x.1]:=by
     rw [List.getD_eq_getElem?_getD,List.getElem?_map,h4];rfl
    rw [this];exact h5) hA
   have P0:=Hf (Q:=Q) (ops:=l.toArray) (a0:=a0) (a:=a) (Region.noSelect_spec s0 i o · · ho) y0 ((ZP _ _ _).trans inv.tsize.symm) (fun t ht=>by
    refine Zn a t _ _ inv.tsize.symm ?_;have h1:(o.looksAt l.toArray).all (fun t=>js.any (·.2==t)||MU l.toArray n i t)=true:=by
     simpa only [yf,ho,Option.map_some,Option.getD_some] using k0
    have h2:=List.all_eq_true.1 h1 t ht;simp only [Bool.or_eq_true] at h2;rcases h2 with h2|h2
    ·left;obtain ⟨x,hx,L0⟩:=List.any_eq_true.1 h2;exact List.mem_map.2 ⟨x,hx,by rw [beq_iff_eq.1 L0]⟩
    ·right;refine (inv.rest t fun j hj hD e=> ?_).symm;have h3:=zg h2 hj;simp only [Bool.or_eq_true,bne_iff_ne,ne_eq,beq_iff_eq] at h3;rcases h3 with (h3|h3)|h3
     ·exact h3 e
     ·obtain ⟨oj,t0,e',V0,Z0,i0⟩:=Region.waitsFor_spec h3
      have:=inv.head.closed j oj t0 hD e' V0 Z0
      rw [i0,getD_both hu] at this;cases this
     ·subst h3;rw [getD_both hu] at hD;cases hD) ho (yn _ _ _) hW
   refine wpOp_mono (fun a' w' hk=> ?_) P0;obtain ⟨v,ha,hv,hg⟩:=hk;exact ih _ a' w' (JF inv f0 hi l0 ho (by omega) ha hv hg) (by have:=(Vp (D:=D) (i:=i) n).2 l0 hu;omega)
 have h0:=K0 n (Array.replicate l.toArray.size false) a0 w0 ⟨⟨by simp,(fun j oj _ hD=>by rw [getD_replicate_false] at hD;cases hD),fun t _ ht=>by simp only [List.size_toArray] at ht ⊢;simp [ht]⟩,x0,rfl,rfl,fun _ _=>rfl,(fun j V hD=>by rw [getD_replicate_false] at hD;cases hD)⟩ (ZU _ n)
 rwa [show n+(l.toArray.size - n)=l.toArray.size by omega] at h0
theorem ZJ{u:Value}{K:World→Prop}{ds:List Deferred}{o:Oper}{a:Act}{w:World}(hw:Region.wanted o (yielded ops a.tmps)=true)
  (h: ∀K':Act→World→Prop,(∀a' w',a'.defers=ds→(match o.dst with|some d=>a'.eval (.tmp d)|none=>undef)=u→K w'→K' a' w')→o.wp P a w K' (PS u o.dst ds K)):wpList P ops (PS u o.dst ds K) [o] a w:=by
 unfold wpList;rw [if_pos hw];exact .inl (h _ fun a' w' h1 h2 h3=>⟨rfl,h1,h2,h3⟩)
end
section
variable {P:Program} {ops:Array Oper} {md:Region.Mode} {Q:Exit→Act→World→Prop} {n nn:Nat} {a0:Act} {w0:World}
theorem Ud{F:Fence}: ∀(l:List Oper) (k:Nat) (listed:Array Bool) (a:Act) (w:World),(∀j,l[j]? =ops[k+j]?)→
  Region.seqB md ops l.length k listed=true→wpListIn F nn P ops Q l a w→wpAnyIn F nn P md ops Q l.length listed a w
 | [],_,_,_,_,_,hB,h=>⟨by simpa [Region.seqB] using hB,h⟩
 |o::l,k,listed,a,w,hl,hB,h=>by
  have h0:ops[k]? =some o:=by simpa using (hl 0).symm
  simp only [List.length_cons,Region.seqB,Bool.and_eq_true,decide_eq_true_eq] at hB;refine ⟨fun h1=>(by rw [hB.1] at h1;cases h1),fun i hi=> ?_⟩;rw [hB.1] at hi;obtain rfl:i=k:=by simpa using hi
  have hw:wpOpIn F nn P ops Q i (wpListIn F nn P ops Q l) a w:=by unfold wpOpIn;simp only [h0];exact h
  exact wpOpIn_mono (fun a' w' h'=>Ud l (i+1) _ a' w' (fun j=>by have:=hl (j+1);simpa [Nat.add_assoc,Nat.add_comm 1 j] using this) hB.2 h') hw
theorem Ke{V:Pv}{o:Oper}{a b:Act}{w:World}(hd: ∀c,o.op≠ .defer c)(hs: ∀cs b,o.op≠ .select cs b)(hdst: ∀d,o.dst=some d→d< a.tmps.size)(hsz:b.tmps.size=a.tmps.size)(hlook: ∀t∈o.looksAt ops,b.tmps[t]? =a.tmps[t]?){i:Nat}(hi:ops[i]? =some o)
  (hdf:b.defers=a0.defers) (h:wpList P ops (yt V o.dst a0.defers w) [o] b w):wpOpIn Fence.wide nn P ops Q i (fun a' w'=> ∃v,a'=a.put o.dst v∧V.p (match o.dst with|some _=>v|none=>undef) w'∧w.grownBy w' none) a w:=by
 have h2:=Kf (Q:=fun _ _ _=>False) hs hdst hsz hlook hi hdf h;unfold wpOp at h2;unfold wpOpIn;simp only [hi] at h2 ⊢;split
 ·rename_i hw;rw [if_pos hw] at h2;rcases h2 with h2|h2
  ·refine ⟨fun _ _=>trivial, ?_⟩;rw [Oper.semAt_plain _ _ _ hd];unfold Oper.wp at h2;generalize (execOp a.eval o).run P w=r at *;cases r with
   |ok x w'=>
    cases x with
    |value v=>exact h2
    |skip=>exact h2
    |defer d=>exact h2
    |enter f args=>
     refine ⟨fun h=>by simp [Fence.wide] at h,callsIn_wide.2 (Calls.mono h2 fun e w'' he=> ?_)⟩;cases e with
     |returned v=>exact he
     |panicked c=>exact he.elim
     |outgrown=>obtain ⟨_,_,hx⟩:=he;exact hx.elim
    |row row args=>
     refine ⟨fun h=>by simp [Fence.wide] at h,fun c cs _=> ?_⟩;obtain ⟨v,w'',r,s⟩:=h2 c cs;exact ⟨v,w'',r,stepsIn_wide.2 s⟩
    |round l f ts c1 c2=>exact h2.elim
    |_=>exact h2.elim
   |halt x w'=>
    cases x with
    |panic v=>exact h2.elim
    |_=>exact h2.elim
  ·obtain ⟨_,_,_,hx⟩:=h2;exact hx.elim
 ·rename_i hw;rw [if_neg hw] at h2;exact ⟨fun _ _=>trivial,h2⟩
theorem Qe{l:List Oper}(n:Nat)(Q0:Ru l.toArray=true)(hB:Yd l.toArray n a0.tmps.size=true)
  (h:Od P l.toArray n a0 w0 (fun Vs=> ∀w,w0.grownBy w none→IH (fun a w=>wpListIn Fence.wide nn P l.toArray Q (l.drop n) a w) w Vs (l.take n) a0) [] (l.take n)):wpAnyIn Fence.wide nn P .any l.toArray Q l.toArray.size (Array.replicate l.toArray.size false) a0 w0:=by
 simp only [Yd,Bool.and_eq_true,decide_eq_true_eq] at hB;obtain ⟨⟨⟨⟨q0,hn⟩,d0⟩,c0⟩,f0⟩:=hB;simp only [Mv,Bool.and_eq_true] at d0;obtain ⟨u0,p0⟩:=d0;obtain ⟨Vs,H0,hF,hO⟩:=Od.out h;rw [List.nil_append] at hF;simp only [List.nil_append,List.length_nil,Nat.zero_add] at hO;have Z0:n≤l.length:=by simpa using hn
 have L0:(l.take n).length=n:=by simp;omega
 have x0:Vs.length=n:=H0.trans L0;have G0:(l.drop n).length=l.toArray.size - n:=by simp
 have k0: ∀i o,i< n→l.toArray[i]? =some o→(l.take n)[i]? =some o:=fun i o hi ho=>by
  rw [List.getElem?_take,if_pos hi];simpa using ho
 have I0: ∀m D a w,Cw l.toArray n a0 w0 Vs D a w→cnt D n=m→wpAnyIn Fence.wide nn P .any l.toArray Q (m+(l.toArray.size - n)) D a w:=by
  intro m;induction m with
  |zero=>
   intro D a w inv hc;have b0:=xv hc;have hD:D=Array.replicate n true++Array.replicate (l.toArray.size - n) false:=by
    have M0:=inv.head.size;refine Array.ext (by simp [M0];omega) fun i h1 h2=> ?_
    rw [Array.getElem_append];by_cases hi:i< n
    ·have:=b0 i hi
     simp [h1] at this;simp [hi,this]
    ·have:=inv.head.tail i (by omega) (by omega)
     simp [h1] at this;simp [hi,this]
   have hk: ∀(k:Nat) (V:Pv) (o:Oper),Vs[k]? =some V→(l.take n)[k]? =some o→V.p (match o.dst with|some d=>a.eval (.tmp d)|none=>undef) w:=by
    intro k V o hv ho;have B0:k< n:=by have:=(List.getElem?_eq_some_iff.1 hv).1;omega
    have h1:=inv.known k V (b0 k B0) hv;have h2:zY l.toArray k=o.dst:=by
     have:l[k]? =some o:=by rw [List.getElem?_take,if_pos B0] at ho;exact ho
     simp [zY,this]
    rw [h2] at h1;have h3:(match o.dst with|some d=>a.eval (.tmp d)|none=>undef)=Rb o.dst a:=by cases o.dst<;>rfl
    rw [h3];exact h1
   have n0:=IH.all H0 hk (hF w inv.grown);have i0:Oa a ((l.take n).map (·.dst)) a0=a:=by
    refine Tb (fun t=>Zn a t _ _ inv.tsize.symm ?_) ((yn _ _ _).trans inv.defers.symm);by_cases ht:some t∈(l.take n).map (·.dst)
    ·exact .inl ht
    ·refine .inr (inv.rest t fun j hj _ e=>ht ?_).symm;have D0:j< l.length:=by omega
     have:l[j].dst=some t:=by simpa [zY,D0] using e
     exact List.mem_map.2 ⟨l[j],List.mem_iff_getElem?.2 ⟨j,by rw [List.getElem?_take,if_pos hj,List.getElem?_eq_getElem D0]⟩,this⟩
   rw [i0] at n0
   have:=Ud (md:= .any) (l.drop n) n D a w (fun j=>by simp [List.getElem?_drop]) (by rw [G0,hD];exact p0) n0
   rw [G0] at this
   rwa [Nat.zero_add]
  |succ m ih=>
   intro D a w inv hc;have g0: ∀i∈Region.ready .any l.toArray D,i< n:=by
    intro i hi;rcases Nat.lt_or_ge i n with h'|h'
    ·exact h'
    ·obtain ⟨hu,oi,A0,b0⟩:=mem_ready.1 hi;have R0:i< l.toArray.size:=(Array.getElem?_eq_some_iff.1 A0).1;exfalso;obtain ⟨k,hk,s0⟩: ∃k,k< n∧D.getD k false=false:=by
      refine Classical.byContradiction fun O0=> ?_
      have: ∀k,k≤n→cnt D k=0:=by
       intro k;induction k with
       |zero=>intro _;rfl
       |succ k ihk=>
        intro hk;have h1:D.getD k false=true:=by
         refine Classical.byContradiction fun hx=>O0 ⟨k,by omega,by simpa using hx⟩
        simp only [cnt,h1,ihk (by omega)];rfl
      rw [this n (nRf _)] at hc;omega
     have hb:=zg u0 R0;simp only [Bool.or_eq_true,decide_eq_true_eq] at hb;have hb:=zg (hb.resolve_left (by omega)) hk;simp only [Bool.not_eq_true'] at hb;have F0:i≠k:=by omega
     have:av l.toArray k n i=true:=by
      have Y0:=fun f j hj=>PF (ops:=l.toArray) inv.head.closed inv.head.size s0 f j hj
      cases e0:n with
      |zero=>simp [av,F0]
      |succ f=>
       simp only [av,A0,Option.map_some,Option.getD_some,Bool.and_eq_true,bne_iff_ne];refine ⟨F0, ?_⟩;rw [Array.all_eq_true_iff_forall_mem];intro e he;by_cases y0:Region.binds .any e=true
       ·simp [y0,Y0 f e.on (b0 e he y0)]
       ·simp [y0]
     rw [hb] at this;cases this
   have P0:Region.ready .any l.toArray D≠ []:=by
    have T0: ∃k,k< n∧D.getD k false=false∧ ∀j,j< k→D.getD j false=true:=by
     have: ∀k,k≤n→(∃q,q< k∧D.getD q false=false∧ ∀j,j< q→D.getD j false=true)∨(cnt D k=0):=by
      intro k;induction k with
      |zero=>intro _;exact .inr rfl
      |succ k ihk=>
       intro hk;rcases ihk (by omega) with ⟨q,h1,h2⟩|h0
       ·exact .inl ⟨q,by omega,h2⟩
       ·cases hq:D.getD k false with
        |true=>right;simp only [cnt,hq,h0];rfl
        |false=>exact .inl ⟨k,by omega,hq,xv h0⟩
     rcases this n (nRf _) with ⟨q,h1,h2⟩|h0
     ·exact ⟨q,h1,h2⟩
     ·omega
    obtain ⟨k,hk,s0,v0⟩:=T0;have C0:k< l.toArray.size:=by omega
    have ho:l.toArray[k]? =some l.toArray[k]:=Array.getElem?_eq_getElem C0
    have:k∈Region.ready .any l.toArray D:=by
     refine mem_ready.2 ⟨getD_in (by rw [inv.head.size];exact C0) s0,_,ho,fun e he hb=>v0 _ ?_⟩;have ht:=zg c0 hk;simp only [ho,Option.map_some,Option.getD_some] at ht
     have:=Array.all_eq_true_iff_forall_mem.1 ht e he
     simpa [hb] using this
    intro e;rw [e] at this;cases this
   rw [show m+1+(l.toArray.size - n)=(m+(l.toArray.size - n))+1 by omega];refine ⟨fun e=>absurd e P0,fun i hi=> ?_⟩;have m0:=g0 i hi;obtain ⟨hu,o,ho,b0⟩:=mem_ready.1 hi;obtain ⟨V,js,hV,o0,z0⟩:=hO i o (k0 i o m0 ho);simp only [Bool.and_eq_true] at o0;obtain ⟨j0,l0⟩:=o0;have t0: ∀d,o.dst=some d→d< a.tmps.size:=by
    intro d hd
    have:=zg f0 m0
    have h2:zY l.toArray i=some d:=by simp only [zY,ho];exact hd
    rw [h2] at this;simp only [Bool.and_eq_true,decide_eq_true_eq] at this;rw [inv.tsize];exact this.1
   have S0: ∀x:Nat×Tmp,x∈js→zY l.toArray x.1=some x.2∧D.getD x.1 false=true∧x.1< i:=by
    intro x hx
    have:=List.all_eq_true.1 j0 x hx
    simp only [Bool.and_eq_true,beq_iff_eq] at this;obtain ⟨oj,r0,e,he,hb,i0⟩:=Region.waitsFor_spec this.2;obtain rfl:o=oj:=Option.some.inj (ho.symm.trans r0);have ht:=zg c0 m0;simp only [ho,Option.map_some,Option.getD_some] at ht;have ht:=Array.all_eq_true_iff_forall_mem.1 ht e he;simp only [hb,Bool.not_true,Bool.false_or,decide_eq_true_eq] at ht;exact ⟨this.1,by rw [←i0];exact b0 e he hb,by rw [←i0];exact ht⟩
   have hA:=z0 w inv.grown;have hW:=Ask.all (b:=a) (fun x hx=>by
    obtain ⟨h1,h2,h3⟩:=S0 x hx;have K0:x.1< Vs.length:=by omega
    have h4:Vs[x.1]? =some Vs[x.1]:=List.getElem?_eq_getElem K0;have h5:=inv.known x.1 _ h2 h4;rw [h1] at h5
    have:(Vs.take i).getD x.1 Pv.any=Vs[x.1]:=by
     rw [List.getD_eq_getElem?_getD,List.getElem?_take,if_pos h3,h4];rfl
    rw [this];exact h5) hA
   have N0:=Ke (Q:=Q) (nn:=nn) (ops:=l.toArray) (fun c=>VC Q0 i o c ho) (a0:=a0) (a:=a) (Region.noSelect_spec q0 i o · · ho) t0 ((ZP _ _ _).trans inv.tsize.symm) (fun t ht=>by
    refine Zn a t _ _ inv.tsize.symm ?_;have h1:(o.looksAt l.toArray).all (fun t=>js.any (·.2==t)||MU l.toArray n i t)=true:=by
     simpa only [yf,ho,Option.map_some,Option.getD_some] using l0
    have h2:=List.all_eq_true.1 h1 t ht;simp only [Bool.or_eq_true] at h2;rcases h2 with h2|h2
    ·left;obtain ⟨x,hx,J0⟩:=List.any_eq_true.1 h2;exact List.mem_map.2 ⟨x,hx,by rw [beq_iff_eq.1 J0]⟩
    ·right;refine (inv.rest t fun j hj hD e=> ?_).symm;have h3:=zg h2 hj;simp only [Bool.or_eq_true,bne_iff_ne,ne_eq,beq_iff_eq] at h3;rcases h3 with (h3|h3)|h3
     ·exact h3 e
     ·obtain ⟨oj,r0,e',U0,V0,i0⟩:=Region.waitsFor_spec h3
      have:=inv.head.closed j oj r0 hD e' U0 V0
      rw [i0,getD_both hu] at this;cases this
     ·subst h3;rw [getD_both hu] at hD;cases hD) ho (yn _ _ _) hW
   refine wpOpIn_mono (fun a' w' hk=> ?_) N0;obtain ⟨v,ha,hv,hg⟩:=hk;exact ih _ a' w' (QP inv f0 hi m0 ho hV (by omega) ha hv hg) (by have:=(Vp (D:=D) (i:=i) n).2 m0 hu;omega)
 have h0:=I0 n (Array.replicate l.toArray.size false) a0 w0 ⟨⟨by simp,(fun j oj _ hD=>by rw [getD_replicate_false] at hD;cases hD),fun t _ ht=>by simp only [List.size_toArray] at ht ⊢;simp [ht]⟩,gRr w0 none,rfl,rfl,fun _ _=>rfl,(fun j V hD=>by rw [getD_replicate_false] at hD;cases hD)⟩ (ZU _ n)
 rwa [show n+(l.toArray.size - n)=l.toArray.size by omega] at h0
def Dn(nn:Nat)(P:Program)(ops:Array Oper)(Q:Exit→Act→World→Prop)(w:World):List Pv→List Oper→Act→Prop
 |V::Vs,o::os,a=> ∀x,V.p x w→Dn nn P ops Q w Vs os (a.put o.dst x)
 |_,os,a=>wpListIn Fence.wide nn P ops Q os a w
theorem Dn.cut{w:World}: ∀{Vs:List Pv} {os:List Oper} {a:Act},Vs.length≤os.length→Dn nn P ops Q w Vs os a→IH (fun a w=>wpListIn Fence.wide nn P ops Q (os.drop Vs.length) a w) w Vs (os.take Vs.length) a
 | [],os,a,_,h=>by
  have h:wpListIn Fence.wide nn P ops Q os a w:=by cases os<;>exact h
  exact h
 |V::Vs, [],a,hl,_=>by simp at hl
 |V::Vs,o::os,a,hl,h=>fun x hx=>Dn.cut (Vs:=Vs) (os:=os) (by simpa using hl) (h x hx)
theorem Yk{l:List Oper}{id:Nat}(n:Nat)(hm:P.follows .mixedOrders=true)(hnd:Ru l.toArray=true)(hB:Yd l.toArray n a0.tmps.size=true)
  (h:zm P l.toArray n a0 w0.drew (fun Vs=> ∀w,w0.drew.grownBy w none→Dn nn P l.toArray Q w Vs l a0) n [] l):(Code.region id l.toArray true).wpIn Fence.wide nn P Q a0 w0:=by
 refine wpIn_region_any hm ?_;obtain ⟨hM,hn⟩:=RZ.cut (zm.up h);refine Qe n hnd hB (Od.weak hM fun Ws hW hF w hw=> ?_);have hl:Ws.length=n:=by simp only [List.length_nil,Nat.zero_add] at hW;rw [hW];simp;omega
 have:=Dn.cut (by rw [hl];exact hn) (hF w hw)
 rwa [hl] at this
end
structure Lt where
 C:List Value→World→Prop
 R:Nat→World→World→Prop
 g: ∀{vs w w'},C vs w→w.grownBy w' none→C vs w'
structure Qv (L:Lt) where
 p:List Value→Value→World→Prop
 fr:Nat
 st: ∀{vs v w w'},p vs v w→w.grownBy w' none→p vs v w'
 sr: ∀{vs u v w w'},fr≤vs.length→L.C vs w→L.R vs.length w w'→p vs v w→p (vs++ [u]) v w'
def Qv.any{L:Lt}:Qv L:=⟨fun _ _ _=>True,0,fun _ _=>trivial,fun _ _ _ _=>trivial⟩
def Qv.eq{L:Lt}(u:Value):Qv L:=⟨fun _ v _=>v=u,0,fun h _=>h,fun _ _ _ h=>h⟩
def Qv.slot{L:Lt}(q:Nat):Qv L:=⟨fun vs v _=>vs[q]? =some v,q+1,fun h _=>h,fun _ _ _ h=>by
 have:=(List.getElem?_eq_some_iff.1 h).1
 rw [List.getElem?_append_left this];exact h⟩
section
variable {L:Lt} {late:List Nat} {P:Program} {ops:Array Oper} {Q:Exit→Act→World→Prop} {n:Nat} {a0:Act} {w0:World}
def yC(T:Value→World→Prop)(dst:Option Tmp)(ds:List Deferred):Exit→Act→World→Prop:=fun e a' w'=>e= .normal∧a'.defers=ds∧T (match dst with|some d=>a'.eval (.tmp d)|none=>undef) w'
def VK(P:Program)(ops:Array Oper)(vs:List Value)(Vs:List (Qv L))(Qt:Exit→Act→World→Prop)(o:Oper)(w:World):List (Nat×Tmp)→Act→Prop
 | [],a=>wpList P ops Qt [o] a w
 |(j,d)::js,a=> ∀x,(Vs.getD j Qv.any).p vs x w→VK P ops vs Vs Qt o w js (a.put (some d) x)
def Cn(L:Lt)(late:List Nat)(P:Program)(ops:Array Oper)(Vs:List (Qv L))(ds:List Deferred)(i:Nat)(V:Qv L)(o:Oper)(js:List (Nat×Tmp))(a0:Act):Prop:=
 (late.contains i=false∧V.fr=0∧ ∀vs w,L.C vs w→VK P ops vs Vs (yC (fun v w'=>V.p vs v w'∧w.grownBy w' none) o.dst ds) o w js a0)∨
 (∃q,late[q]? =some i∧V=Qv.slot q∧ ∀vs w,vs.length=q→L.C vs w→VK P ops vs Vs (yC (fun v w'=>L.R q w w'∧L.C (vs++ [v]) w') o.dst ds) o w js a0)
def LateR(L:Lt)(late:List Nat)(P:Program)(ops:Array Oper)(n:Nat)(a0:Act)(F:List (Qv L)→Prop):Nat→List (Qv L)→List Oper→Prop
 |0,Rs,_=>F Rs.reverse
 |_+1,_, []=>False
 |k+1,Rs,o::os=> ∃(V:Qv L) (js:List (Nat×Tmp)),(yo ops Rs.length js && yf ops n Rs.length js)=true∧Cn L late P ops Rs.reverse a0.defers Rs.length V o js a0∧LateR L late P ops n a0 F k (V::Rs) os
theorem LateR.mono{F:List (Qv L)→Prop}{k:Nat}{Rs:List (Qv L)}{o:Oper}{os:List Oper}(V:Qv L)(js:List (Nat×Tmp))(hc:(yo ops Rs.length js && yf ops n Rs.length js)=true)(hl:late.contains Rs.length=false)(hf:V.fr=0)(hA: ∀vs w,L.C vs w→VK P ops vs Rs.reverse (yC (fun v w'=>V.p vs v w'∧w.grownBy w' none) o.dst a0.defers) o w js a0)(h:LateR L late P ops n a0 F k (V::Rs) os):LateR L late P ops n a0 F (k+1) Rs (o::os):=⟨V,js,hc, .inl ⟨hl,hf,hA⟩,h⟩
theorem LateR.turn{F:List (Qv L)→Prop}{k:Nat}{Rs:List (Qv L)}{o:Oper}{os:List Oper}(q:Nat)(js:List (Nat×Tmp))(hc:(yo ops Rs.length js && yf ops n Rs.length js)=true)(hl:late[q]? =some Rs.length)(hA: ∀vs w,vs.length=q→L.C vs w→VK P ops vs Rs.reverse (yC (fun v w'=>L.R q w w'∧L.C (vs++ [v]) w') o.dst a0.defers) o w js a0)(h:LateR L late P ops n a0 F k (Qv.slot q::Rs) os):LateR L late P ops n a0 F (k+1) Rs (o::os):=⟨Qv.slot q,js,hc, .inr ⟨q,hl,rfl,hA⟩,h⟩
theorem LateR.out{F:List (Qv L)→Prop}: ∀{k:Nat} {Rs:List (Qv L)} {os:List Oper},LateR L late P ops n a0 F k Rs os→k≤os.length∧ ∃Ws:List (Qv L),Ws.length=k∧F (Rs.reverse++Ws)∧ ∀m o,m< k→os[m]? =some o→ ∃V js,Ws[m]? =some V∧(yo ops (Rs.length+m) js && yf ops n (Rs.length+m) js)=true∧Cn L late P ops ((Rs.reverse++Ws).take (Rs.length+m)) a0.defers (Rs.length+m) V o js a0
 |0,Rs,os,h=>⟨Nat.zero_le _, [],rfl,by rw [List.append_nil];exact h,fun m o hm=>by omega⟩
 |_+1,_, [],h=>h.elim
 |k+1,Rs,o::os,⟨V,js,hb,hA,hM⟩=>by
  obtain ⟨hkl,Ws,hl,hF,hk⟩:=LateR.out hM;refine ⟨by simpa using hkl,V::Ws,by simp [hl],by simpa using hF,fun m o' hm ho=> ?_⟩;cases m with
  |zero=>
   obtain rfl:o=o':=by simpa using ho
   refine ⟨V,js,rfl,hb, ?_⟩
   have:(Rs.reverse++V::Ws).take (Rs.length+0)=Rs.reverse:=by
    rw [Nat.add_zero, ←List.length_reverse];exact List.take_left
   rw [this];exact hA
  |succ m=>
   obtain ⟨V',js',h1,h2,h3⟩:=hk m o' (by omega) (by simpa using ho);refine ⟨V',js',by simpa using h1, ?_, ?_⟩
   ·simpa [Nat.add_assoc,Nat.add_comm 1 m] using h2
   ·simpa [Nat.add_assoc,Nat.add_comm 1 m] using h3
def Xl(G:Act→World→Prop)(vs:List Value)(w:World):List (Qv L)→List Oper→Act→Prop
 |V::Vs,o::os,a=> ∀x,V.p vs x w→Xl G vs w Vs os (a.put o.dst x)
 |_,_,a=>G a w
theorem Xl.all{G:Act→World→Prop}{vs:List Value}{w:World}{b:Act}: ∀{Vs:List (Qv L)} {os:List Oper} {a:Act},Vs.length=os.length→(∀(k:Nat) (V:Qv L) (o:Oper),Vs[k]? =some V→os[k]? =some o→V.p vs (match o.dst with|some d=>b.eval (.tmp d)|none=>undef) w)→Xl G vs w Vs os a→G (Oa b (os.map (·.dst)) a) w
 | [], [],_,_,_,h=>h
 |V::Vs,o::os,a,hl,hx,h=>Xl.all (Vs:=Vs) (os:=os) (by simpa using hl) (fun k V o hv ho=>hx (k+1) V o (by simpa using hv) (by simpa using ho)) (h _ (hx 0 V o rfl rfl))
 | [],_::_,_,hl,_,_=>by simp at hl
 |_::_, [],_,hl,_,_=>by simp at hl
theorem VK.all{vs:List Value}{Vs:List (Qv L)}{Qt:Exit→Act→World→Prop}{o:Oper}{w:World}{b:Act}: ∀{js:List (Nat×Tmp)} {a:Act},(∀x:Nat×Tmp,x∈js→(Vs.getD x.1 Qv.any).p vs (b.eval (.tmp x.2)) w)→VK P ops vs Vs Qt o w js a→wpList P ops Qt [o] (Oa b (js.map fun x=>some x.2) a) w
 | [],_,_,h=>h
 |(j,d)::js,a,hx,h=>VK.all (js:=js) (fun x hm=>hx x (mCm _ hm)) (h _ (hx (j,d) (by simp)))
def Cls(L:Lt)(late:List Nat)(vs:List Value)(D:Array Bool)(w:World):Prop:=vs.length≤late.length∧L.C vs w∧ ∀q i,late[q]? =some i→(D.getD i false=true↔q< vs.length)
structure Dc (L:Lt) (late:List Nat) (ops:Array Oper) (n:Nat) (a0:Act) (Vs:List (Qv L)) (vs:List Value) (D:Array Bool) (a:Act) (w:World):Prop where
 head:HeadInv .any ops n D
 cls:Cls L late vs D w
 tsize:a.tmps.size=a0.tmps.size
 defers:a.defers=a0.defers
 rest: ∀t,(∀j,j< n→D.getD j false=true→zY ops j≠some t)→a.tmps[t]? =a0.tmps[t]?
 known: ∀j V,D.getD j false=true→Vs[j]? =some V→V.p vs (Rb (zY ops j) a) w
theorem xq{T:Value→World→Prop}{dst:Option Tmp}{ds:List Deferred}: ¬LetsOut (yC T dst ds):=by
 rintro ⟨a,w',e,_⟩;cases e
def DX(ops:Array Oper)(late:List Nat):Bool:=(List.range (late.length - 1)).all fun q=>Region.waitsFor .any ops (late.getD (q+1) 0) (late.getD q 0)
def RE(ops:Array Oper)(n:Nat)(late:List Nat):Bool:=late.all (fun i=>decide (i< n)) && decide late.Nodup && DX ops late
theorem Rf{T:Value→World→Prop}{o:Oper}{a b:Act}{w:World}(hs: ∀cs b,o.op≠ .select cs b)(hd: ∀d,o.dst=some d→d< a.tmps.size)(hsz:b.tmps.size=a.tmps.size)(hlook: ∀t∈o.looksAt ops,b.tmps[t]? =a.tmps[t]?){i:Nat}(hi:ops[i]? =some o)
  (hdf:b.defers=a0.defers) (h:wpList P ops (yC T o.dst a0.defers) [o] b w):wpOp P ops Q i (fun a' w'=> ∃v,a'=a.put o.dst v∧T (match o.dst with|some _=>v|none=>undef) w') a w:=by
 have hex:execOp b.eval o=execOp a.eval o:=execOp_congr o hs fun x hx=>by
  cases x with
  |tmp t=>exact Yz _ _ _ (hlook t (mAl _ (List.mem_filterMap.2 ⟨.tmp t,by simpa using hx,rfl⟩)))
  |_=>rfl
 have hwn:Region.wanted o (yielded ops b.tmps)=Region.wanted o (yielded ops a.tmps):=by
  unfold Region.wanted;cases hg:o.guard with
  |none=>rfl
  |some gw=>
   obtain ⟨g,want⟩:=gw;have hy:yielded ops b.tmps g=yielded ops a.tmps g:=by
    unfold yielded;cases ht:(ops[g]?).bind (·.dst) with
    |none=>rfl
    |some t=>simp only [Option.bind_some,hlook t (by simp [Oper.looksAt,hg,ht])]
   simp only [hy]
 have fin: ∀v w',yC T o.dst a0.defers .normal (b.put o.dst v) w'→ ∃v',a.put o.dst v=a.put o.dst v'∧T (match o.dst with|some _=>v'|none=>undef) w':=by
  rintro v w' ⟨_,_,h1⟩;refine ⟨v,rfl, ?_⟩;cases hdd:o.dst with
  |none=>rw [hdd] at h1;exact h1
  |some d=>
   rw [hdd] at h1;have hlt:=hd d hdd
   have:(b.put (some d) v).eval (.tmp d)=v:=by simp [Act.put,Act.eval,Array.getD_eq_getD_getElem?,hsz,hlt]
   simp only [this] at h1;exact h1
 unfold wpOp;simp only [hi];simp only [wpList,hwn] at h;split
 ·rename_i hw;rw [if_pos hw] at h;rcases h with h|h
  ·left;unfold Oper.wp at h ⊢;rw [hex] at h;generalize (execOp a.eval o).run P w=r at *;cases r with
   |ok x w'=>
    cases x with
    |value v=>exact fin v w' h
    |skip=>exact fin undef w' h
    |enter f args=>
     refine Calls.mono h fun e w'' he=> ?_
     cases e with
     |returned u=>exact fin u w'' he
     |panicked c=>exact absurd he.1 (by simp)
     |outgrown=>exact absurd he xq
    |row row args=>exact Rows.mono h fun u w'' he=>fin u w'' he
    |defer d=>
     obtain ⟨_,h1,_⟩:=h;have h1:(Act.put {b with defers:=d::b.defers} o.dst undef).defers=a0.defers:=h1;rw [yN, ←hdf] at h1;exact absurd (congrArg List.length h1) (by simp)
    |_=>exact h.elim
   |halt x w'=>
    cases x with
    |panic v=>exact absurd h.1 (by simp)
    |_=>exact h.elim
  ·exact absurd h.2 xq
 ·rename_i hw;rw [if_neg hw] at h;exact fin undef w h
theorem UC{L:Lt}{late:List Nat}{vs vs2:List Value}{Vs:List (Qv L)}{D:Array Bool}{a a':Act}{w w':World}{i:Nat}{o:Oper}{V:Qv L}{v:Value}(inv:Dc L late ops n a0 Vs vs D a w)(hd:JX ops n a0.tmps.size=true)(hi:i∈Region.ready .any ops D)(hin:i< n)(ho:ops[i]? =some o)(hV:Vs[i]? =some V)(hnl:Vs.length≤n)
  (ha:a'=a.put o.dst v) (hv:V.p vs2 (match o.dst with|some _=>v|none=>undef) w') (hg: ∀(W:Qv L) (j:Nat),D.getD j false=true→Vs[j]? =some W→ ∀{u:Value},W.p vs u w→W.p vs2 u w') (hcl:Cls L late vs2 (D.setIfInBounds i true) w'):Dc L late ops n a0 Vs vs2 (D.setIfInBounds i true) a' w':=by
 subst ha;have hdi:zY ops i=o.dst:=by simp [zY,ho]
 have hun:D.getD i true=false:=(mem_ready.1 hi).1;have hlt:i< D.size:=by
  rcases Nat.lt_or_ge i D.size with h'|h'
  ·exact h'
  ·simp [Array.getElem?_eq_none h'] at hun
 refine ⟨inv.head.set hi hin,hcl,(YD _ _ _).trans inv.tsize,(yN _ _ _).trans inv.defers,fun t ht=> ?_,fun j W hj hW=> ?_⟩
 ·have h1:o.dst≠some t:=fun e=>ht i hin (by simp [hlt]) (hdi.trans e)
  refine Eq.trans ?_ (inv.rest t fun j hj hD=>ht j hj (getD_set_true hD));cases hdd:o.dst with
  |none=>rfl
  |some d=>exact Xv _ _ _ _ (fun e=>h1 (by rw [hdd,e]))
 ·by_cases e:i=j
  ·subst e;obtain rfl:V=W:=Option.some.inj (hV.symm.trans hW);rw [hdi];cases hdd:o.dst with
   |none=>rw [hdd] at hv;exact hv
   |some d=>
    rw [hdd] at hv;have hds:=zg hd hin;rw [hdi,hdd] at hds;simp only [Bool.and_eq_true,decide_eq_true_eq] at hds
    have:(a.put (some d) v).eval (.tmp d)=v:=by simp [Act.put,Act.eval,Array.getD_eq_getD_getElem?,inv.tsize,hds.1]
    show V.p vs2 ((a.put (some d) v).eval (.tmp d)) w';rw [this];exact hv
  ·have hjn:j< n:=by have:=(List.getElem?_eq_some_iff.1 hW).1;omega
   rw [getD_set_ne false e] at hj;have h1:=hg W j hj hW (inv.known j W hj hW);cases hdj:zY ops j with
   |none=>rw [hdj] at h1;exact h1
   |some dj=>
    rw [hdj] at h1;have h1:W.p vs2 (a.eval (.tmp dj)) w':=h1;show W.p vs2 ((a.put o.dst v).eval (.tmp dj)) w';cases hdd:o.dst with
    |none=>exact h1
    |some d=>
     have hds:=zg hd hin;rw [hdi,hdd] at hds;simp only [Bool.and_eq_true,decide_eq_true_eq] at hds;have h2:=zg hds.2 hjn;simp only [Bool.or_eq_true,beq_iff_eq,bne_iff_ne,ne_eq] at h2;have h3:d≠dj:=fun e'=>(h2.resolve_left (fun e2=>e e2.symm)) (by rw [hdj,e'])
     rw [Yz _ a dj (Xv a d dj v h3)];exact h1
theorem XZ{l:List Oper}(n:Nat)(hB:Yd l.toArray n a0.tmps.size=true)(U0:RE l.toArray n late=true)(n1:L.C [] w0)
  (h:LateR L late P l.toArray n a0 (fun Vs=> ∀vs w,vs.length=late.length→L.C vs w→Xl (fun a w=>wpList P l.toArray Q (l.drop n) a w) vs w Vs (l.take n) a0) n [] l):wpAny P .any l.toArray Q l.toArray.size (Array.replicate l.toArray.size false) a0 w0:=by
 simp only [Yd,Bool.and_eq_true,decide_eq_true_eq] at hB;obtain ⟨⟨⟨⟨z0,hn⟩,d0⟩,c0⟩,g0⟩:=hB;simp only [Mv,Bool.and_eq_true] at d0;obtain ⟨H0,y0⟩:=d0;simp only [RE,Bool.and_eq_true,decide_eq_true_eq] at U0;obtain ⟨⟨B0,a1⟩,i1⟩:=U0;have r0: ∀i∈late,i< n:=fun i hi=>by simpa using List.all_eq_true.1 B0 i hi
 have l0: ∀q,q+1< late.length→ ∀i,late[q+1]? =some i→ ∀i',late[q]? =some i'→Region.waitsFor .any l.toArray i i'=true:=fun q hq i h1 i' h2=>by
  have:=zg i1 (show q< late.length - 1 by omega)
  rw [List.getD_eq_getElem?_getD,List.getD_eq_getElem?_getD,h1,h2] at this;exact this
 obtain ⟨_,Vs,T0,hF,hO⟩:=LateR.out h;rw [List.reverse_nil,List.nil_append] at hF;simp only [List.reverse_nil,List.nil_append,List.length_nil,Nat.zero_add] at hO;have o1:n≤l.length:=by simpa using hn
 have e0:(l.take n).length=n:=by simp;omega
 have q1:Vs.length=n:=T0;have d1: ∀j W,Vs[j]? =some W→(late.contains j=false∧W.fr=0)∨ ∃q,late[q]? =some j∧W.fr≤q+1:=fun j W hW=>by
  have hj:j< n:=by have:=(List.getElem?_eq_some_iff.1 hW).1;omega
  obtain ⟨V,js,hV,_,m0⟩:=hO j l[j] hj (List.getElem?_eq_getElem (by omega));obtain rfl:V=W:=Option.some.inj (hV.symm.trans hW);rcases m0 with ⟨h1,h2,_⟩|⟨q,h1,h2,_⟩
  ·exact .inl ⟨h1,h2⟩
  ·exact .inr ⟨q,h1,by rw [h2];exact nRf _⟩
 have S0:(l.drop n).length=l.toArray.size - n:=by simp
 have M0: ∀i o,i< n→l.toArray[i]? =some o→(l.take n)[i]? =some o:=fun i o hi ho=>by
  rw [List.getElem?_take,if_pos hi];simpa using ho
 have V0: ∀m vs D a w,Dc L late l.toArray n a0 Vs vs D a w→cnt D n=m→wpAny P .any l.toArray Q (m+(l.toArray.size - n)) D a w:=by
  intro m;induction m with
  |zero=>
   intro vs D a w inv hc;have b0:=xv hc;have hD:D=Array.replicate n true++Array.replicate (l.toArray.size - n) false:=by
    have x0:=inv.head.size;refine Array.ext (by simp [x0];omega) fun i h1 h2=> ?_
    rw [Array.getElem_append];by_cases hi:i< n
    ·have:=b0 i hi
     simp [h1] at this;simp [hi,this]
    ·have:=inv.head.tail i (by omega) (by omega)
     simp [h1] at this;simp [hi,this]
   have hk: ∀(k:Nat) (V:Qv L) (o:Oper),Vs[k]? =some V→(l.take n)[k]? =some o→V.p vs (match o.dst with|some d=>a.eval (.tmp d)|none=>undef) w:=by
    intro k V o hv ho;have N0:k< n:=by have:=(List.getElem?_eq_some_iff.1 hv).1;omega
    have h1:=inv.known k V (b0 k N0) hv;have h2:zY l.toArray k=o.dst:=by
     have:l[k]? =some o:=by rw [List.getElem?_take,if_pos N0] at ho;exact ho
     simp [zY,this]
    rw [h2] at h1;have h3:(match o.dst with|some d=>a.eval (.tmp d)|none=>undef)=Rb o.dst a:=by cases o.dst<;>rfl
    rw [h3];exact h1
   have v0:vs.length=late.length∧L.C vs w:=by
    obtain ⟨P0,n0,k0⟩:=inv.cls;rcases Nat.lt_or_ge vs.length late.length with h|h
    case inr=>exact ⟨by omega,n0⟩
    ·have h1:=(k0 vs.length late[vs.length] (List.getElem?_eq_getElem h)).1 (b0 _ (r0 _ (lGm h)));omega
   have t0:=Xl.all (T0.trans e0.symm) hk (hF vs w v0.1 v0.2);have f0:Oa a ((l.take n).map (·.dst)) a0=a:=by
    refine Tb (fun t=>Zn a t _ _ inv.tsize.symm ?_) ((yn _ _ _).trans inv.defers.symm);by_cases ht:some t∈(l.take n).map (·.dst)
    ·exact .inl ht
    ·refine .inr (inv.rest t fun j hj _ e=>ht ?_).symm;have Q0:j< l.length:=by omega
     have:l[j].dst=some t:=by simpa [zY,Q0] using e
     exact List.mem_map.2 ⟨l[j],List.mem_iff_getElem?.2 ⟨j,by rw [List.getElem?_take,if_pos hj,List.getElem?_eq_getElem Q0]⟩,this⟩
   rw [f0] at t0
   have:=wpAny_of_seq (md:= .any) (Q':=Q) (l.drop n) n D a w (fun j=>by simp [List.getElem?_drop]) (by rw [S0,hD];exact y0) t0
   rw [S0] at this
   rwa [Nat.zero_add]
  |succ m ih=>
   intro vs D a w inv hc;have i0: ∀i∈Region.ready .any l.toArray D,i< n:=by
    intro i hi;rcases Nat.lt_or_ge i n with h'|h'
    ·exact h'
    ·obtain ⟨hu,oi,L0,b0⟩:=mem_ready.1 hi;have C0:i< l.toArray.size:=(Array.getElem?_eq_some_iff.1 L0).1;exfalso;obtain ⟨k,hk,D0⟩: ∃k,k< n∧D.getD k false=false:=by
      refine Classical.byContradiction fun X0=> ?_
      have: ∀k,k≤n→cnt D k=0:=by
       intro k;induction k with
       |zero=>intro _;rfl
       |succ k ihk=>
        intro hk;have h1:D.getD k false=true:=by
         refine Classical.byContradiction fun hx=>X0 ⟨k,by omega,by simpa using hx⟩
        simp only [cnt,h1,ihk (by omega)];rfl
      rw [this n (nRf _)] at hc;omega
     have hb:=zg H0 C0;simp only [Bool.or_eq_true,decide_eq_true_eq] at hb;have hb:=zg (hb.resolve_left (by omega)) hk;simp only [Bool.not_eq_true'] at hb;have R0:i≠k:=by omega
     have:av l.toArray k n i=true:=by
      have k1:=fun f j hj=>PF (ops:=l.toArray) inv.head.closed inv.head.size D0 f j hj
      cases p1:n with
      |zero=>simp [av,R0]
      |succ f=>
       simp only [av,L0,Option.map_some,Option.getD_some,Bool.and_eq_true,bne_iff_ne];refine ⟨R0, ?_⟩;rw [Array.all_eq_true_iff_forall_mem];intro e he;by_cases J0:Region.binds .any e=true
       ·simp [J0,k1 f e.on (b0 e he J0)]
       ·simp [J0]
     rw [hb] at this;cases this
   have A0:Region.ready .any l.toArray D≠ []:=by
    have f1: ∃k,k< n∧D.getD k false=false∧ ∀j,j< k→D.getD j false=true:=by
     have: ∀k,k≤n→(∃q,q< k∧D.getD q false=false∧ ∀j,j< q→D.getD j false=true)∨(cnt D k=0):=by
      intro k;induction k with
      |zero=>intro _;exact .inr rfl
      |succ k ihk=>
       intro hk;rcases ihk (by omega) with ⟨q,h1,h2⟩|h0
       ·exact .inl ⟨q,by omega,h2⟩
       ·cases hq:D.getD k false with
        |true=>right;simp only [cnt,hq,h0];rfl
        |false=>exact .inl ⟨k,by omega,hq,xv h0⟩
     rcases this n (nRf _) with ⟨q,h1,h2⟩|h0
     ·exact ⟨q,h1,h2⟩
     ·omega
    obtain ⟨k,hk,D0,I0⟩:=f1;have O0:k< l.toArray.size:=by omega
    have ho:l.toArray[k]? =some l.toArray[k]:=Array.getElem?_eq_getElem O0
    have:k∈Region.ready .any l.toArray D:=by
     refine mem_ready.2 ⟨getD_in (by rw [inv.head.size];exact O0) D0,_,ho,fun e he hb=>I0 _ ?_⟩;have ht:=zg c0 hk;simp only [ho,Option.map_some,Option.getD_some] at ht
     have:=Array.all_eq_true_iff_forall_mem.1 ht e he
     simpa [hb] using this
    intro e;rw [e] at this;cases this
   rw [show m+1+(l.toArray.size - n)=(m+(l.toArray.size - n))+1 by omega];refine ⟨fun e=>absurd e A0,fun i hi=> ?_⟩;have s0:=i0 i hi;obtain ⟨hu,o,ho,b0⟩:=mem_ready.1 hi;obtain ⟨V,js,hV,u0,m0⟩:=hO i o s0 (by simpa using ho);simp only [Bool.and_eq_true] at u0;obtain ⟨o0,q0⟩:=u0;have G0: ∀d,o.dst=some d→d< a.tmps.size:=by
    intro d hd
    have:=zg g0 s0
    have h2:zY l.toArray i=some d:=by simp only [zY,ho];exact hd
    rw [h2] at this;simp only [Bool.and_eq_true,decide_eq_true_eq] at this;rw [inv.tsize];exact this.1
   have c1: ∀x:Nat×Tmp,x∈js→zY l.toArray x.1=some x.2∧D.getD x.1 false=true∧x.1< i:=by
    intro x hx
    have:=List.all_eq_true.1 o0 x hx
    simp only [Bool.and_eq_true,beq_iff_eq] at this;obtain ⟨oj,p0,e,he,hb,f0⟩:=Region.waitsFor_spec this.2;obtain rfl:o=oj:=Option.some.inj (ho.symm.trans p0);have ht:=zg c0 s0;simp only [ho,Option.map_some,Option.getD_some] at ht;have ht:=Array.all_eq_true_iff_forall_mem.1 ht e he;simp only [hb,Bool.not_true,Bool.false_or,decide_eq_true_eq] at ht;exact ⟨this.1,by rw [←f0];exact b0 e he hb,by rw [←f0];exact ht⟩
   have F0: ∀x:Nat×Tmp,x∈js→((Vs.take i).getD x.1 Qv.any).p vs (a.eval (.tmp x.2)) w:=fun x hx=>by
    obtain ⟨h1,h2,h3⟩:=c1 x hx;have Z0:x.1< Vs.length:=by omega
    have h4:Vs[x.1]? =some Vs[x.1]:=List.getElem?_eq_getElem Z0;have h5:=inv.known x.1 _ h2 h4;rw [h1] at h5
    have:(Vs.take i).getD x.1 Qv.any=Vs[x.1]:=by
     rw [List.getD_eq_getElem?_getD,List.getElem?_take,if_pos h3,h4];rfl
    rw [this];exact h5
   obtain ⟨P0,n0,k0⟩:=inv.cls;have b1: ∀t∈o.looksAt l.toArray,(Oa a (js.map fun x=>some x.2) a0).tmps[t]? =a.tmps[t]? :=fun t ht=>by
    refine Zn a t _ _ inv.tsize.symm ?_;have h1:(o.looksAt l.toArray).all (fun t=>js.any (·.2==t)||MU l.toArray n i t)=true:=by
     simpa only [yf,ho,Option.map_some,Option.getD_some] using q0
    have h2:=List.all_eq_true.1 h1 t ht;simp only [Bool.or_eq_true] at h2;rcases h2 with h2|h2
    ·left;obtain ⟨x,hx,Y0⟩:=List.any_eq_true.1 h2;exact List.mem_map.2 ⟨x,hx,by rw [beq_iff_eq.1 Y0]⟩
    ·right;refine (inv.rest t fun j hj hD e=> ?_).symm;have h3:=zg h2 hj;simp only [Bool.or_eq_true,bne_iff_ne,ne_eq,beq_iff_eq] at h3;rcases h3 with (h3|h3)|h3
     ·exact h3 e
     ·obtain ⟨oj,p0,e',g1,j1,f0⟩:=Region.waitsFor_spec h3
      have:=inv.head.closed j oj p0 hD e' g1 j1
      rw [f0,getD_both hu] at this;cases this
     ·subst h3;rw [getD_both hu] at hD;cases hD
   obtain ⟨T,hA,hS⟩: ∃T:Value→World→Prop,VK P l.toArray vs (Vs.take i) (yC T o.dst a0.defers) o w js a0∧(∀v w',T v w'→ ∃vs2,V.p vs2 v w'∧(∀(W:Qv L) (j:Nat),D.getD j false=true→Vs[j]? =some W→ ∀{u:Value},W.p vs u w→W.p vs2 u w')∧Cls L late vs2 (D.setIfInBounds i true) w'):=by
    rcases m0 with ⟨hnl',_,hA⟩|⟨q,hq,hVq,hA⟩
    ·have A0: ∀q i',late[q]? =some i'→i≠i':=fun q i' hq e=>by
      subst e
      have:=List.contains_iff_mem.2 (List.mem_of_getElem? hq)
      rw [hnl'] at this;cases this
     exact ⟨_,hA vs w n0,fun v w' hg=>⟨vs,hg.1,fun W j _ _ _ hp=>W.st hp hg.2,P0,L.g n0 hg.2,fun q i' hq=>by rw [getD_set_ne false (A0 q i' hq)];exact k0 q i' hq⟩⟩
    ·have l1:D.getD i false=false:=getD_both hu;have h1: ¬q< vs.length:=fun h=>by have:=(k0 q i hq).2 h;rw [l1] at this;cases this
     have h2:q≤vs.length:=by
      cases q with
      |zero=>omega
      |succ q=>
       have K0:q< late.length:=by have:=(List.getElem?_eq_some_iff.1 hq).1;omega
       have hw:=l0 q (by have:=(List.getElem?_eq_some_iff.1 hq).1;omega) i hq late[q] (List.getElem?_eq_getElem K0);obtain ⟨oj,p0,e,he,hb,f0⟩:=Region.waitsFor_spec hw;obtain rfl:o=oj:=Option.some.inj (ho.symm.trans p0);have h3:=b0 e he hb;rw [f0] at h3
       have:=(k0 q _ (List.getElem?_eq_getElem K0)).1 h3
       omega
     obtain rfl:q=vs.length:=by omega
     refine ⟨_,hA vs w rfl n0,fun v w' hg=>⟨vs++ [v],(by rw [hVq];show (vs++ [v])[vs.length]? =some v;simp),fun W j hj hW _ hp=>W.sr ?_ n0 hg.1 hp,by rw [lLa];exact (List.getElem?_eq_some_iff.1 hq).1,hg.2,fun q' i' j0=> ?_⟩⟩
     ·rcases d1 j W hW with ⟨_,h4⟩|⟨q',j0,h4⟩
      ·rw [h4];exact Nat.zero_le _
      ·have:=(k0 q' j j0).1 hj
       omega
     ·by_cases e:i=i'
      ·subst e;have E0:q'=vs.length:=by
        have h5:=(List.getElem?_eq_some_iff.1 j0).1
        skip
        exact (List.getElem?_inj h5 a1).1 (j0.trans hq.symm)
       have C0:i< D.size:=by
        rw [inv.head.size];exact (Array.getElem?_eq_some_iff.1 ho).1
       simp [C0,E0]
      ·rw [getD_set_ne false e,k0 q' i' j0]
       have:q'≠vs.length:=fun e'=>e (by rw [e',hq] at j0;exact Option.some.inj j0)
       simp only [List.length_append,List.length_singleton];omega
   have hW:=VK.all (b:=a) F0 hA;have W0:=Rf (Q:=Q) (ops:=l.toArray) (a0:=a0) (a:=a) (Region.noSelect_spec z0 i o · · ho) G0 ((ZP _ _ _).trans inv.tsize.symm) b1 ho (yn _ _ _) hW;refine wpOp_mono (fun a' w' hk=> ?_) W0;obtain ⟨v,ha,hT⟩:=hk;obtain ⟨vs2,hv,hs,v0⟩:=hS _ w' hT;exact ih vs2 _ a' w' (UC inv g0 hi s0 ho hV (by omega) ha hv hs v0) (by have:=(Vp (D:=D) (i:=i) n).2 s0 hu;omega)
 have h0:=V0 n [] (Array.replicate l.toArray.size false) a0 w0 ⟨⟨by simp,(fun j oj _ hD=>by rw [getD_replicate_false] at hD;cases hD),fun t _ ht=>by simp only [List.size_toArray] at ht ⊢;simp [ht]⟩,⟨Nat.zero_le _,n1,fun q i hq=>by rw [getD_replicate_false];simp⟩,rfl,rfl,fun _ _=>rfl,(fun j V hD=>by rw [getD_replicate_false] at hD;cases hD)⟩ (ZU _ n)
 rwa [show n+(l.toArray.size - n)=l.toArray.size by omega] at h0
theorem askl_do{T:Value→World→Prop}{ds:List Deferred}{o:Oper}{a:Act}{w:World}(hw:Region.wanted o (yielded ops a.tmps)=true)
  (h: ∀K':Act→World→Prop,(∀a' w',a'.defers=ds→T (match o.dst with|some d=>a'.eval (.tmp d)|none=>undef) w'→K' a' w')→o.wp P a w K' (yC T o.dst ds)):wpList P ops (yC T o.dst ds) [o] a w:=by
 unfold wpList;rw [if_pos hw];exact .inl (h _ fun a' w' h1 h2=>⟨rfl,h1,h2⟩)
def Ng(P:Program)(ops:Array Oper)(Q:Exit→Act→World→Prop)(vs:List Value)(w:World):List (Qv L)→List Oper→Act→Prop
 |V::Vs,o::os,a=> ∀x,V.p vs x w→Ng P ops Q vs w Vs os (a.put o.dst x)
 |_,os,a=>wpList P ops Q os a w
theorem Ng.cut{vs:List Value}{w:World}: ∀{Vs:List (Qv L)} {os:List Oper} {a:Act},Vs.length≤os.length→Ng P ops Q vs w Vs os a→Xl (fun a w=>wpList P ops Q (os.drop Vs.length) a w) vs w Vs (os.take Vs.length) a
 | [],os,a,_,h=>by
  have h:wpList P ops Q os a w:=by cases os<;>exact h
  exact h
 |V::Vs, [],a,hl,_=>by simp at hl
 |V::Vs,o::os,a,hl,h=>fun x hx=>Ng.cut (Vs:=Vs) (os:=os) (by simpa using hl) (h x hx)
theorem LateR.weak{F G:List (Qv L)→Prop}: ∀{k:Nat} {Rs:List (Qv L)} {os:List Oper},LateR L late P ops n a0 F k Rs os→(∀Ws,Ws.length=Rs.length+k→F Ws→G Ws)→LateR L late P ops n a0 G k Rs os
 |0,Rs,_,h,hg=>hg _ (by simp) h
 |_+1,_, [],h,_=>h.elim
 |k+1,Rs,o::os,⟨V,js,hb,hA,hM⟩,hg=>⟨V,js,hb,hA,LateR.weak hM fun Ws hW=>hg Ws (by simp at hW ⊢;omega)⟩
theorem YU{l:List Oper}(n:Nat)(hB:Yd l.toArray n a0.tmps.size=true)(hBl:RE l.toArray n late=true)(hC0:L.C [] w0)
  (h:LateR L late P l.toArray n a0 (fun Vs=> ∀vs w,vs.length=late.length→L.C vs w→Ng P l.toArray Q vs w Vs l a0) n [] l):wpAny P .any l.toArray Q l.toArray.size (Array.replicate l.toArray.size false) a0 w0:=by
 refine XZ n hB hBl hC0 (LateR.weak h fun Ws hW hF vs w hvl hw=> ?_);have hn:=(LateR.out h).1;have hl:Ws.length=n:=by simpa using hW
 have:=Ng.cut (by rw [hl];exact hn) (hF vs w hvl hw)
 rwa [hl] at this
theorem wp_region_late{l:List Oper}{id:Nat}(L:Lt)(late:List Nat)(n:Nat)(hm:P.follows .mixedOrders=true)(hB:Yd l.toArray n a0.tmps.size=true)(hBl:RE l.toArray n late=true)(hC0:L.C [] w0.drew)
  (h:LateR L late P l.toArray n a0 (fun Vs=> ∀vs w,vs.length=late.length→L.C vs w→Ng P l.toArray Q vs w Vs l a0) n [] l):(Code.region id l.toArray true).wp P Q a0 w0:=
 wp_region_any hm (YU n hB hBl hC0 h)
end
section
variable {L:Lt} {late:List Nat} {P:Program} {ops:Array Oper} {n:Nat} {a0:Act} {F:List (Qv L)→Prop} {k:Nat} {Rs:List (Qv L)} {o:Oper} {os:List Oper}
theorem lV(V:Qv L)(js:List (Nat×Tmp))(hA: ∀vs w,L.C vs w→VK P ops vs Rs.reverse (yC (fun v w'=>V.p vs v w'∧w.grownBy w' none) o.dst a0.defers) o w js a0)(h:LateR L late P ops n a0 F k (V::Rs) os)(hc:(yo ops Rs.length js && yf ops n Rs.length js)=true:=by kernel_rfl)(hl:late.contains Rs.length=false:=by kernel_rfl)(hf:V.fr=0:=by rfl):LateR L late P ops n a0 F (k+1) Rs (o::os):=LateR.mono V js hc hl hf hA h
theorem lS(u:Value)(js:List (Nat×Tmp))(hA: ∀vs w,L.C vs w→VK P ops vs Rs.reverse (yC (fun v w'=>(Qv.eq (L:=L) u).p vs v w'∧w.grownBy w' none) o.dst a0.defers) o w js a0)(h:LateR L late P ops n a0 F k (Qv.eq u::Rs) os)(hc:(yo ops Rs.length js && yf ops n Rs.length js)=true:=by kernel_rfl)(hl:late.contains Rs.length=false:=by kernel_rfl):LateR L late P ops n a0 F (k+1) Rs (o::os):=LateR.mono _ js hc hl rfl hA h
theorem lD{T:Value→World→Prop}{ds:List Deferred}{a:Act}{w:World}(h: ∀K:Act→World→Prop,(∀a' w',a'.defers=ds→T (match o.dst with|some d=>a'.eval (.tmp d)|none=>undef) w'→K a' w')→o.wp P a w K (yC T o.dst ds))(hw:Region.wanted o (yielded ops a.tmps)=true:=by rfl):wpList P ops (yC T o.dst ds) [o] a w:=askl_do hw h
theorem lE{T:Value→World→Prop}{ds:List Deferred}{a:Act}{w:World}(h: ∀K:Act→World→Prop,(∀a' w',a'.defers=ds→T (match o.dst with|some d=>a'.eval (.tmp d)|none=>undef) w'→K a' w')→o.wp P a w K (yC T o.dst ds))(hw:Region.wanted o (yielded ops a.tmps)=true:=by kernel_rfl):wpList P ops (yC T o.dst ds) [o] a w:=askl_do hw h
theorem lQ{u:Value}{vs:List Value}{ds:List Deferred}{a:Act}{w:World}(h: ∀K:Act→World→Prop,(∀a',a'.defers=ds→(match o.dst with|some d=>a'.eval (.tmp d)|none=>undef)=u→K a' w)→o.wp P a w K (yC (fun v w'=>(Qv.eq (L:=L) u).p vs v w'∧w.grownBy w' none) o.dst ds))(hw:Region.wanted o (yielded ops a.tmps)=true:=by rfl):wpList P ops (yC (fun v w'=>(Qv.eq (L:=L) u).p vs v w'∧w.grownBy w' none) o.dst ds) [o] a w:=askl_do hw fun K hK=>h K fun a' h1 h2=>hK a' w h1 ⟨h2,gRr w none⟩
theorem lR{u:Value}{vs:List Value}{ds:List Deferred}{a:Act}{w:World}(h: ∀K:Act→World→Prop,(∀a',a'.defers=ds→(match o.dst with|some d=>a'.eval (.tmp d)|none=>undef)=u→K a' w)→o.wp P a w K (yC (fun v w'=>(Qv.eq (L:=L) u).p vs v w'∧w.grownBy w' none) o.dst ds))(hw:Region.wanted o (yielded ops a.tmps)=true:=by kernel_rfl):wpList P ops (yC (fun v w'=>(Qv.eq (L:=L) u).p vs v w'∧w.grownBy w' none) o.dst ds) [o] a w:=askl_do hw fun K hK=>h K fun a' h1 h2=>hK a' w h1 ⟨h2,gRr w none⟩
end
end
section
open Go.RowKit
def Td(w:World)(v:Value)(e:Ending)(w':World):Prop:=e= .returned v∧ ∃n,w'=w.drewN n
theorem En(v1 v2:Value)(xs:List Int)(X Y:Nat→Prop)(w:World)(h1:Sl ze X w v1 xs)(h2:Sl ze Y w v2 xs):
  Calls prog 68 #[v1,v2] w (Td w (.bool true)):=by
 have H1:=za h1;have H2:=za h2;obtain ⟨A1,c1,rfl,hc1,hc2⟩:=h1.form;obtain ⟨A2,c2,rfl,_,_⟩:=h2.form;clear h1 h2;have HST:Hid (∃n,w=w.drewN n):=za ⟨0,rfl⟩;go_enter func68,ntmps68;go_wp2_with fail;go_loopg [5] xs.length (fun g s5 wx=> ∃j:Nat,j+g=xs.length∧s5= .int .i64 j∧Hid (∃n,wx=w.drewN n))
 case atStart=>exact ⟨0,by omega,rfl,HST⟩
 case round=>
  obtain ⟨j,hj,rfl,HX⟩:=hrel;obtain ⟨n0,rfl⟩:=HX.z;cases gk with
  |zero=>
   obtain rfl:j=xs.length:=by omega
   clear HX HST;go_wp2;go_ret;exact ⟨rfl,_,rfl⟩
  |succ m=>
   have hjn:(j:Int)< (xs.length:Int):=by omega
   have hj0:(0:Int)≤(j:Int):=by omega
   have hjN:j< xs.length:=by omega
   obtain ⟨g1,o1,c1',e1,_,_,a1,u1⟩:=H1.z.atU hjN;injection e1 with e11 e12 e13
   subst e11 e13;obtain ⟨g2,o2,c2',e2,_,_,a2,_⟩:=H2.z.atU hjN;injection e2 with e21 e22 e23
   subst e21 e23;clear HX HST e12 e22;generalize xs[j]=y at *;go_wp2_with fail;go_quiet (fail);go_wp2_with fail;go_roundg m
   case measure=>omega
   case rel=>exact ⟨j+1,by omega,by go_num,za ⟨_,rfl⟩⟩
theorem Gq(v1 v2:Value)(xs:List (List Int))(X Y:Nat→Prop)(w:World)(h1:Sl (zh ze) X w v1 xs)(h2:Sl (zh ze) Y w v2 xs):
  Calls prog 33 #[v1,v2] w (Td w (.bool true)):=by
 have H1:=za h1;have H2:=za h2;obtain ⟨A1,c1,rfl,hc1,hc2⟩:=h1.form;obtain ⟨A2,c2,rfl,_,_⟩:=h2.form;clear h1 h2;have HST:Hid (∃n,w=w.drewN n):=za ⟨0,rfl⟩;go_enter func33,ntmps33;go_wp2_with fail;go_loopg [5] xs.length (fun g s5 wx=> ∃j:Nat,j+g=xs.length∧s5= .int .i64 j∧Hid (∃n,wx=w.drewN n))
 case atStart=>exact ⟨0,by omega,rfl,HST⟩
 case round=>
  obtain ⟨j,hj,rfl,HX⟩:=hrel;obtain ⟨n0,rfl⟩:=HX.z;cases gk with
  |zero=>
   obtain rfl:j=xs.length:=by omega
   clear HX HST;go_wp2;go_ret;exact ⟨rfl,_,rfl⟩
  |succ m=>
   have hjn:(j:Int)< (xs.length:Int):=by omega
   have hj0:(0:Int)≤(j:Int):=by omega
   have hjN:j< xs.length:=by omega
   obtain ⟨g1,o1,c1',t1,e1,_,_,a1,k1⟩:=H1.z.atS hjN;injection e1 with e11 e12 e13
   subst e11 e13;obtain ⟨g2,o2,c2',t2,e2,_,_,a2,k2⟩:=H2.z.atS hjN;injection e2 with e21 e22 e23
   subst e21 e23;have HN:=za (fun k=>En t1 t2 xs[j] X Y (w.drewN k) (k1.kept (zf (gRr w none) k)) (k2.kept (zf (gRr w none) k)));obtain ⟨B1,d1,rfl,_,_⟩:=k1.form;obtain ⟨B2,d2,rfl,_,_⟩:=k2.form;clear HX HST e12 e22 k1 k2;generalize xs[j].length=n1 at *;go_wp2_with fail;go_quiet ((go_at_call 68;exact Uq (HN.z _)));go_wp2_with fail;go_roundg m
   case measure=>omega
   case rel=>exact ⟨j+1,by omega,by go_num,za ⟨_,rfl⟩⟩
def yU:List Int:= [2,3,5,7,11,13,17,19,23,29,31,37]
def ye(w:World):Prop:=(∀j,j< Lib.deBruijn64tab.length→w.cell? ⟨1,j,none⟩=some (.int .u8 (Lib.deBruijn64tab.getD j 0)))∧(∀j,j< 12→w.cell? ⟨0,j,none⟩=some (.int .u64 (yU.getD j 0)))
theorem ye.drewN{w:World}(h:ye w)(n:Nat):ye (w.drewN n):=h
theorem Kb(x k idx:Nat)(w:World)(hx0:((x:Int)==0)=false)
  (key:IntKind.u64.wrap (bits BinOp.and IntKind.u64 (x:Int) (IntKind.u64.wrap (-(x:Int)))*285870213051353865) / 288230376151711744=(idx:Int))
  (hi:idx< 64) (hk:k< 64) (hcell:w.cell? ⟨1,idx,none⟩=some (.int .u8 k)):
  Calls prog 137 #[.int .u64 x] w fun e w'=>e= .returned (.int .i64 k)∧w'=w:=by
 go_enter func137,ntmps137;go_wp2_with (simp only [key]);go_ret;exact ⟨rfl,rfl⟩
theorem IV(x a:Nat)(hx:x< 18446744073709551616)(hx0:x≠0)(hlow:x &&& (18446744073709551616 - x)=a):
  IntKind.u64.wrap (bits BinOp.and IntKind.u64 (x:Int) (IntKind.u64.wrap (-(x:Int)))*285870213051353865) / 288230376151711744=((a*285870213051353865%18446744073709551616 / 288230376151711744:Nat):Int):=by
 have e1:IntKind.u64.wrap (-(x:Int))=((18446744073709551616 - x:Nat):Int):=by rw [IntKind.wrap_u64];omega
 rw [e1,bits_and_u64_nat x _ hx (by omega),hlow,IntKind.wrap_u64];omega
theorem IW(x:Int)(w:World)(h0:0< x)(h1:x< 18446744073709551616)(hT:ye w):
  Calls prog 137 #[.int .u64 x] w fun e w'=>e= .returned (.int .i64 (Lib.ctz 64 x.toNat))∧w'=w:=by
 obtain ⟨n,rfl⟩:=Int.eq_ofNat_of_zero_le (show 0≤x by omega);rw [Int.toNat_natCast];have hx0:n≠0:=by omega
 have hx:n< 18446744073709551616:=by omega
 obtain ⟨hlow,hk⟩:=Lib.lowest_bit 64 n hx0 hx;obtain ⟨hi,htab⟩:=Lib.deBruijn64_at _ hk;have hcell:=hT.1 _ hi;rw [htab] at hcell;exact Kb n _ _ w (by simp;omega) (IV n _ hx hx0 hlow) hi hk hcell
def IL(n:Int):Nat→Int→Bool
 |0,_=>false
 |k+1,x=>x==n - 1||IL n k (zR x x n)
def Dz(n a:Int)(t:Nat):Bool:=YW a ((n - 1) / 2 ^ t) n==1||IL n t (YW a ((n - 1) / 2 ^ t) n)
def goB(n:Int)(t:Nat):List Int→Bool
 | []=>true
 |a::l=>if n%a=0 then decide (n=a) else if Dz n a t then goB n t l else false
def Zl(n:Int):Bool:=if n< 2∨2305843009213693952< n then false else goB n (Lib.ctz 64 (n - 1).toNat) yU
theorem KL(n:Int)(w:World)(h:n< 2∨2305843009213693952< n):
  Calls prog 81 #[.int .u64 n] w fun e w'=>e= .returned (.bool false)∧ ∃k,w'=w.drewN k:=by
 by_cases h2:n< 2
 ·clear h;have h2':decide (n< 2)=true:=by simpa using h2
  go_enter func81,ntmps81;go_wp2;go_step3;go_wp2
  (try rw [Exit.noGoto_ret])
  go_ret;exact ⟨rfl,0,rfl⟩
 ·have h2':decide (n< 2)=false:=by simpa using h2
  have h3:2305843009213693952< n:=h.resolve_left h2;have h3':decide (2305843009213693952< n)=true:=by simpa using h3
  clear h;go_enter func81,ntmps81;go_wp2;go_step3;go_wp2
  (try rw [Exit.noGoto_ret])
  go_ret;exact ⟨rfl,0,rfl⟩
theorem Gc(a e m:Int):U64 (YW a e m):=by
 cases hm:zO m with
 |false=>simp [YW,hm,U64]
 |true=>
  simp only [YW,hm,if_true];simp [zO] at hm
  have:=yd (a ^ e.toNat) m hm.1
  unfold U64;omega
theorem Hd: ∀k:Nat,k< 12→ ∃p:Int,yU.drop k=p::yU.drop (k+1)∧2≤p∧p≤37∧
  ∀w,(Instr.index 206 (.agg #[.int .u64 2, .int .u64 3, .int .u64 5, .int .u64 7, .int .u64 11, .int .u64 13, .int .u64 17, .int .u64 19, .int .u64 23, .int .u64 29, .int .u64 31, .int .u64 37]) (.int .i64 k)).run prog w= .ok (.int .u64 p) w:=by
 intro k hk
 match k,hk with
 |0,_=>exact ⟨2,rfl,by decide,by decide,fun _=>by kernel_rfl⟩
 |1,_=>exact ⟨3,rfl,by decide,by decide,fun _=>by kernel_rfl⟩
 |2,_=>exact ⟨5,rfl,by decide,by decide,fun _=>by kernel_rfl⟩
 |3,_=>exact ⟨7,rfl,by decide,by decide,fun _=>by kernel_rfl⟩
 |4,_=>exact ⟨11,rfl,by decide,by decide,fun _=>by kernel_rfl⟩
 |5,_=>exact ⟨13,rfl,by decide,by decide,fun _=>by kernel_rfl⟩
 |6,_=>exact ⟨17,rfl,by decide,by decide,fun _=>by kernel_rfl⟩
 |7,_=>exact ⟨19,rfl,by decide,by decide,fun _=>by kernel_rfl⟩
 |8,_=>exact ⟨23,rfl,by decide,by decide,fun _=>by kernel_rfl⟩
 |9,_=>exact ⟨29,rfl,by decide,by decide,fun _=>by kernel_rfl⟩
 |10,_=>exact ⟨31,rfl,by decide,by decide,fun _=>by kernel_rfl⟩
 |11,_=>exact ⟨37,rfl,by decide,by decide,fun _=>by kernel_rfl⟩
theorem Ga(n:Int)(w:World)(h2:2≤n)(h3:n≤2305843009213693952)(hT:ye w):
  Calls prog 81 #[.int .u64 n] w fun e w'=>e= .returned (.bool (goB n (Lib.ctz 64 (n - 1).toNat) yU))∧ ∃k,w'=w.drewN k:=by
 have u0:decide (n< 2)=false:=by simp;omega
 have t0:decide (2305843009213693952< n)=false:=by simp;omega
 have HT:=Lib.hid hT;obtain ⟨t,ht⟩: ∃t,t=Lib.ctz 64 (n - 1).toNat:=⟨_,rfl⟩;have l0:t< 64:=by rw [ht];exact (Lib.lowest_bit 64 (n - 1).toNat (by omega) (by omega)).2
 have HZ:=Lib.hid (IW (n - 1) w (by omega) (by omega) hT);rw [←ht] at HZ ⊢;clear ht hT;go_enter func81,ntmps81;go_wp2;go_step3;go_wp2_with fail;refine HZ.out.mono ?_;rintro e w' ⟨rfl,hw'⟩;rw [hw'];clear hw';go_wp2_with fail;go_step3;have k0:w.cell? ⟨0,0,none⟩=some (.int .u64 2):=HT.out.2 0 (by decide);have k1:w.cell? ⟨0,1,none⟩=some (.int .u64 3):=HT.out.2 1 (by decide);have k2:w.cell? ⟨0,2,none⟩=some (.int .u64 5):=HT.out.2 2 (by decide);have k3:w.cell? ⟨0,3,none⟩=some (.int .u64 7):=HT.out.2 3 (by decide);have k4:w.cell? ⟨0,4,none⟩=some (.int .u64 11):=HT.out.2 4 (by decide);have k5:w.cell? ⟨0,5,none⟩=some (.int .u64 13):=HT.out.2 5 (by decide);have k6:w.cell? ⟨0,6,none⟩=some (.int .u64 17):=HT.out.2 6 (by decide);have k7:w.cell? ⟨0,7,none⟩=some (.int .u64 19):=HT.out.2 7 (by decide);have k8:w.cell? ⟨0,8,none⟩=some (.int .u64 23):=HT.out.2 8 (by decide);have k9:w.cell? ⟨0,9,none⟩=some (.int .u64 29):=HT.out.2 9 (by decide);have k10:w.cell? ⟨0,10,none⟩=some (.int .u64 31):=HT.out.2 10 (by decide);have k11:w.cell? ⟨0,11,none⟩=some (.int .u64 37):=HT.out.2 11 (by decide);go_wp2_with fail;clear k0 k1 k2 k3 k4 k5 k6 k7 k8 k9 k10 k11;go_loopg [17] 12 (fun g s17 wx=> ∃k:Nat,k+g=12∧s17= .int .i64 k∧Hid (goB n t (yU.drop k)=goB n t yU)∧ ∃q,wx=w.drewN q)
 case atStart=>exact ⟨0,rfl,rfl,Lib.hid rfl,0,rfl⟩
 case round=>
  obtain ⟨k,r0,rfl,HG,q,rfl⟩:=hrel;cases gk with
  |zero=>
   obtain rfl:k=12:=by omega
   have HE:Hid (true=goB n t yU):=Lib.hid HG.out;go_wp2
   (try rw [Exit.noGoto_ret])
   go_ret;exact ⟨congrArg Ending.returned (congrArg Value.bool HE.out),_,rfl⟩
  |succ g=>
   have hk:k< 12:=by omega
   obtain ⟨p,hd,q0,m0,i0⟩:=Hd k hk;have j0:Hid (goB n t (p::yU.drop (k+1))=goB n t yU):=Lib.hid (by rw [←hd];exact HG.out);clear HG hd;by_cases g0:n%p=0
   ·have HE:Hid ((n==p)=goB n t yU):=Lib.hid (by rw [←j0.out];simp only [goB,g0,if_true];rfl);go_wp2
    (try rw [Exit.noGoto_ret])
    go_ret;exact ⟨congrArg Ending.returned (congrArg Value.bool HE.out),_,rfl⟩
   ·have n0:(n%p==0)=false:=by simpa using g0
    have e0:0≤(n - 1) / 2 ^ t:=Int.ediv_nonneg (by omega) (Int.le_of_lt (Int.pow_pos (by decide)));have e1:(n - 1) / 2 ^ t≤n - 1:=Int.ediv_le_self _ (by omega);have HP:=Lib.hid (fun w=>KN p ((n - 1) / 2 ^ t) n w ⟨by omega,by omega⟩ ⟨e0,by omega⟩);have b0:=j0.out;simp only [goB,g0,if_false] at b0;have HX:=Gc p ((n - 1) / 2 ^ t) n;unfold Dz at b0;generalize YW p ((n - 1) / 2 ^ t) n=x0 at HP b0 HX;have HU:=Lib.hid HX;clear HX g0 j0;by_cases f0:x0=1
    ·have HN:Hid (goB n t (yU.drop (k+1))=goB n t yU):=Lib.hid (by rw [←b0];simp [f0]);clear b0;have a0:(x0==1)=true:=by simpa using f0
     clear f0;go_wp2_with fail;refine (HP.out _).mono ?_;rintro e w' ⟨rfl,n1,rfl⟩;go_wp2;go_roundg g
     case measure=>omega
     case rel=>exact ⟨k+1,by omega,by go_num,HN,_,rfl⟩
    ·have a0:(x0==1)=false:=by simpa using f0
     have HN:Hid ((if IL n t x0 then goB n t (yU.drop (k+1)) else false)=goB n t yU):=Lib.hid (by rw [←b0];simp [a0]);clear b0 f0;go_wp2_with fail;refine (HP.out _).mono ?_;rintro e w' ⟨rfl,n1,rfl⟩;go_wp2_with fail;clear i0;go_loopg [6,37] t (fun h s6 s37 wx=> ∃(x:Int) (j:Nat),j+h=t∧s6= .int .u64 x∧Hid (U64 x)∧s37= .int .i64 j∧Hid (IL n h x=IL n t x0)∧ ∃q,wx=w.drewN q)
     case atStart=>exact ⟨x0,0,by omega,rfl,HU,rfl,Lib.hid rfl,_,rfl⟩
     case round=>
      obtain ⟨x,j,hj,rfl,hx,rfl,hW,q2,rfl⟩:=hrel;cases gk with
      |zero=>
       obtain rfl:j=t:=by omega
       have HE:Hid (false=goB n j yU):=Lib.hid (by
        have:=HN.out
        rw [←hW.out] at this;simpa [IL] using this)
       go_wp2
       (try rw [Exit.noGoto_ret])
       go_ret;exact ⟨congrArg Ending.returned (congrArg Value.bool HE.out),_,rfl⟩
      |succ h=>
       have s0:(j:Int)< (t:Int):=by omega
       by_cases d0:x=n - 1
       ·have HE:Hid (goB n t (yU.drop (k+1))=goB n t yU):=Lib.hid (by
         have:=HN.out
         rw [←hW.out] at this;simpa [IL,d0] using this)
        have c0:(x==n - 1)=true:=by simpa using d0
        clear d0 a0;go_wp2;go_roundg g
        case measure=>omega
        case rel=>exact ⟨k+1,by omega,by go_num,HE,_,rfl⟩
       ·have c0:(x==n - 1)=false:=by simpa using d0
        have p0:Hid (IL n h (zR x x n)=IL n t x0):=Lib.hid (by
         have:=hW.out
         simpa [IL,c0] using this)
        have o0:=Lib.hid (yw x x n);clear d0;go_wp2_with fail;refine (ZG x x n _ hx.out hx.out).mono ?_;rintro e w' ⟨rfl,n2,rfl⟩;go_wp2;go_roundg h
        case measure=>omega
        case rel=>exact ⟨zR x x n,j+1,by omega,rfl,o0,by go_num,p0,_,rfl⟩
theorem QD(n:Int)(w:World)(hT:ye w):
  Calls prog 81 #[.int .u64 n] w fun e w'=>e= .returned (.bool (Zl n))∧ ∃k,w'=w.drewN k:=by
 by_cases h:n< 2∨2305843009213693952< n
 ·rw [show Zl n=false by simp only [Zl,if_pos h]];exact KL n w h
 ·rw [show Zl n=goB n (Lib.ctz 64 (n - 1).toNat) yU by simp only [Zl,if_neg h]];exact Ga n w (by omega) (by omega) hT
end
section
open Go.ChangeShapes Go.WideShapes Go.RowKit
theorem Ij:Tryz.prog.cellsOf 22=1:=by kernel_rfl
def Tc{α:Type}(E:Enc α)(t:TypeId)(G:α→Prop):Prop:=
 ∀{H:Type} {enc:TypeId×Value→H} {w:World} {base:Nat} {spare:Nat→Bool} {held:Bool} {fuel:Nat} {cs:List Value} {x:DataW H×List MemPlace},
  DataW.trod enc prog w base spare held fuel t cs=some x→(∀b∈x.1.weights prog t,b≤reachBytes)→ ∃a,E.rep (fun _=>True) w cs a∧G a
theorem Fg.z{α:Type}{E:Enc α}{t:TypeId}(h:Fg E t):Tc E t (fun _=>True):=fun ht _=>by
 obtain ⟨a,ha⟩:=h ht;exact ⟨a,ha,trivial⟩
def LG{α:Type}(G:α→Prop)(l:List α):Prop:=l.length≤17592186044415∧ ∀y∈l,G y
theorem YO{H:Type}{P:Program}{e:TypeId}{b:Nat}: ∀{l:List (DataW H)} {d:DataW H},d∈l→b∈d.weights P e→b∈DataW.weightsAll P e l
 |x::l,d,hd,hb=>by
  rw [DataW.weightsAll];rcases List.mem_cons.1 hd with rfl|hd
  ·exact mAl _ hb
  ·exact mAr _ (YO hd hb)
theorem Qz{α:Type}{E:Enc α}{t e:TypeId}{G:α→Prop}(ht:Tryz.prog.underlying t=some (.slice e))(hE:Tc E e G)(hc:Tryz.prog.cellsOf e=E.size)(hb:8≤Tryz.prog.bytesOf e):Tc (zh E) t (LG G):=by
 intro H enc w base spare v0 fuel cs x h hz;rcases Go.Deep.open_slice ht h with ⟨rfl,_⟩|⟨a,len,cap,m,n,D,Pl,rfl,_,hl,hm,hmm,rfl,hi⟩
 ·exact ⟨[],⟨_,rfl,Sl.nil _ _ _⟩,Nat.zero_le _,fun y hy=>absurd hy (by simp)⟩
 ·have B0:len≤m:=by rw [hmm];split<;>omega
  have d0: ∀b∈DataW.weights prog t (DataW.slice ((List.range len).map D) ((List.range (m - len)).map fun j=>D (len+j))),b≤reachBytes:=hz;rw [DataW.weights,ht] at d0;have k0:(((List.range len).map D).length+((List.range (m - len)).map fun j=>D (len+j)).length)*Tryz.prog.bytesOf e≤reachBytes:=d0 _ mCs;have b0:len≤17592186044415:=by
   rw [lLm,lLm,List.length_range,List.length_range] at k0;have h1:len*8≤(len+(m - len))*Tryz.prog.bytesOf e:=Nat.mul_le_mul (by omega) hb;unfold reachBytes at k0;omega
  have p0: ∀i,i< len→ ∀b∈(D i).weights prog e,b≤reachBytes:=fun i hi b hb=>d0 b (mCm _ (mAl _ (YO (List.mem_map.2 ⟨i,List.mem_range.2 hi,rfl⟩) hb)))
  have j0: ∀i,i< len→ ∃y,(∃cs',E.rep (fun _=>True) w cs' y∧ ∀j,j< E.size→w.cell? (a.add (i*E.size+j))=cs'[j]?)∧G y:=by
   intro i t0;obtain ⟨cs',c0,q0⟩:=hi i (by omega);obtain ⟨y,hy,hG⟩:=hE q0 (p0 i t0);obtain ⟨_,a0,o0⟩:=World.cells?_some c0;rw [hc] at o0;refine ⟨y,⟨cs',hy,fun j hj=> ?_⟩,hG⟩;rw [←o0 j hj,Go.Deep.add_add]
  have y0: ∃f:Fin len→α, ∀i:Fin len,(∃cs',E.rep (fun _=>True) w cs' (f i)∧ ∀j,j< E.size→w.cell? (a.add (i.1*E.size+j))=cs'[j]?)∧G (f i):=
   ⟨fun i=>Classical.choose (j0 i.1 i.2),fun i=>Classical.choose_spec (j0 i.1 i.2)⟩
  obtain ⟨f,n0⟩:=y0;have hf: ∀i:Fin len, ∃cs',E.rep (fun _=>True) w cs' (f i)∧ ∀j,j< E.size→w.cell? (a.add (i.1*E.size+j))=cs'[j]? :=fun i=>(n0 i).1
  have a0:(List.ofFn f).length=len:=List.length_ofFn;refine ⟨List.ofFn f,⟨_,rfl,some a,cap,by rw [a0],by omega,by unfold maxLen at hm;omega,fun hn=> ?_⟩,by rw [a0];exact b0,fun y hy=> ?_⟩
  ·have f0:0< len:=by rw [←a0];exact List.length_pos_iff.2 hn
   obtain ⟨cs0,s0,z0⟩:=hf ⟨0,f0⟩;have i0:=z0 0 E.pos;have m0:=E.len s0;rw [List.getElem?_eq_getElem (by rw [m0];exact E.pos)] at i0;obtain ⟨g,o,sp⟩:=a;have r0:sp=none:=by simpa [Addr.add] using World.cell?_spot i0
   subst r0;have g0:w.cell? ⟨g,o,none⟩=some (cs0[0]'(by rw [m0];exact E.pos)):=by simpa [Addr.add] using i0
   have u0:g< w.heap.size:=by
    rcases Nat.lt_or_ge g w.heap.size with hlt|hge
    ·exact hlt
    ·simp [World.cell?,Array.getElem?_eq_none hge] at g0
   refine ⟨g,o,rfl,u0,trivial,fun i C0=> ?_⟩;obtain ⟨cs',l0,A0⟩:=hf ⟨i,by omega⟩;refine ⟨cs',by simpa using l0,fun j u hu=> ?_⟩;have hj:j< E.size:=by
    rw [←E.len l0];exact (List.getElem?_eq_some_iff.1 hu).1
   rw [←hu, ←A0 j hj]
   have:(⟨g,o,none⟩:Addr).add (i*E.size+j)=⟨g,o+i*E.size+j,none⟩:=by
    unfold Addr.add;split
    ·rename_i h0
     have:i*E.size+j=0:=by simpa using h0
     rw [show o+i*E.size+j=o by omega]
    ·rw [Nat.add_assoc]
   rw [this]
  ·obtain ⟨i,rfl⟩:=List.mem_ofFn.1 hy;exact (n0 i).2
theorem Gf{α:Type}{E:Enc α}{t:TypeId}{G:List α→Prop}(hR:Tc (zh E) t G){H:Type}{enc:TypeId×Value→H}{w:World}{base:Nat}{spare:Nat→Bool}{held:Bool}{a:Option Addr}{len cap:Nat}{d:DataW H}{p:List MemPlace}
  (h:DataW.Trod enc prog w base spare held t (.slice a len cap) d p) (hz: ∀b∈d.weights prog t,b≤reachBytes): ∃xs,Sl E (fun _=>True) w (.slice a len cap) xs∧G xs:=by
 obtain ⟨fuel,hf⟩:=h;obtain ⟨xs,⟨v,e,hs⟩,hg⟩:=hR hf hz;simp [Value.cells] at e;exact ⟨xs,by rw [e];exact hs,hg⟩
theorem xN{H:Type}{P:Program}{t:TypeId}{ts:List TypeId}{d:DataW H}{r:List (DataW H)}(h:(DataW.weightsEach P (t::ts) (d::r)).all (· ≤reachBytes)=true): ∀b∈d.weights P t,b≤reachBytes:=fun b hb=>by
 have h2:=(List.all_eq_true.1 h) b (by rw [DataW.weightsEach];exact mAl _ hb);simpa using h2
theorem xM{H:Type}{P:Program}{t:TypeId}{ts:List TypeId}{d:DataW H}{r:List (DataW H)}(h:(DataW.weightsEach P (t::ts) (d::r)).all (· ≤reachBytes)=true):(DataW.weightsEach P ts r).all (· ≤reachBytes)=true:=
 List.all_eq_true.2 fun b hb=>(List.all_eq_true.1 h) b (by rw [DataW.weightsEach];exact mAr _ hb)
theorem Ow:Tc (zh ze) 31 (LG fun _=>True):=Qz Tryz.underlying31 (Fg.z (KH Tryz.underlying22)) Ij (of_decide_eq_true (by kernel_rfl))
end
section
open Go.RowKit
def xU(s:Int):Int:=IntKind.u64.wrap (s+11400714819323198485)
def IM(z:Int):Int:=
 let a:=IntKind.u64.wrap (bits .xor .u64 z (z / 1073741824)*13787848793156543929)
 let b:=IntKind.u64.wrap (bits .xor .u64 a (a / 134217728)*10723151780598845931)
 bits .xor .u64 b (b / 2147483648)
def VI(x q:Int):Int:=if q=0 then x else x%q
theorem Lx(x q:Int)(hx:U64 x)(hq:U64 q):U64 (VI x q):=by
 unfold VI U64 at *;split
 ·exact hx
 ·have:=yd x q (by omega)
  omega
def Yt(q:Int):Int:=if q=0 then 0 else 18446744073709551616%q
theorem Of(a:Int):IntKind.u64.wrap a=a%18446744073709551616:=IntKind.wrap_u64 a
theorem Uz(s:Int):U64 (xU s):=by
 unfold xU;rw [Of];exact yd _ _ (by decide)
theorem ES(o:BinOp)(a b:Int):U64 (bits o .u64 a b):=by
 have h: ∃x,bits o .u64 a b=IntKind.u64.wrap x:=by
  unfold bits;exact ⟨_,rfl⟩
 obtain ⟨x,h⟩:=h;rw [h,Of];exact yd _ _ (by decide)
theorem Rw(z:Int):U64 (IM z):=by
 unfold IM;exact ES _ _ _
theorem Gk:IM 0=0:=by kernel_rfl
def Da(q s:Int):Bool:=decide (Yt q≤bits BinOp.xor IntKind.u64 IntKind.u64.max (IM s))
theorem AQ(x:Int)(hx:U64 x):bits BinOp.xor IntKind.u64 IntKind.u64.max x=18446744073709551615 - x:=by
 obtain ⟨x0,x1⟩:=hx;obtain ⟨n,rfl⟩:=Int.eq_ofNat_of_zero_le x0;have h1:(BitVec.ofInt 64 (n:Int)).toNat=n:=by
  rw [BitVec.ofInt_natCast,BitVec.toNat_ofNat];exact Nat.mod_eq_of_lt (by omega)
 have h2:BitVec.ofInt 64 IntKind.u64.max=BitVec.allOnes 64:=by decide
 show IntKind.u64.wrap ((BitVec.ofInt 64 IntKind.u64.max ^^^ BitVec.ofInt 64 (n:Int)).toNat:Int)=_;rw [h2,BitVec.allOnes_xor,BitVec.toNat_not,h1,IntKind.wrap_u64];omega
theorem EZ(q s:Int):Da q s=decide (Yt q≤18446744073709551615 - IM s):=by
 unfold Da;rw [AQ _ (Rw _)]
theorem Km(q:Int)(h:0≤q)(h1:q< 18446744073709551616):Yt q≤18446744073709551615:=by
 unfold Yt;split
 ·decide
 ·have:=yd 18446744073709551616 q (by omega)
  omega
theorem Fd(q:Int)(h:U64 q):Da q 0=true:=by
 have:=Km q h.1 h.2
 rw [EZ,Gk];simpa using this
theorem GJ(M a b c:Int)(h:M ∣ a)(e:a=b+M*c):M ∣ b:=by
 obtain ⟨k,hk⟩:=h;exact ⟨k - c,by rw [Int.mul_sub];omega⟩
theorem Jr(M s v st k:Int)(hv:v*st=1+M*k)(h0:0< s)(h1:s< M):((M - s)*v)%M≠0:=by
 intro hz;have d:=Int.dvd_of_emod_eq_zero hz;have d2:M ∣ (M - s)*v*st:=Int.dvd_trans d (Int.dvd_mul_right _ _);have e:(M - s)*v*st=(M - s)+M*((M - s)*k):=by
  rw [Int.mul_assoc,hv,Int.mul_add,Int.mul_one, ←Int.mul_assoc,Int.mul_comm (M - s) M,Int.mul_assoc]
 have d3:=GJ _ _ _ _ d2 e
 have:=Int.le_of_dvd (by omega) d3
 omega
theorem Hn(M s n v st k a b:Int)(hM:1< M)(hv:v*st=1+M*k)(hn:n=(s+st)%M)(ha:a=((M - s)*v)%M)(hb:b=((M - n)*v)%M):b=(a - 1)%M:=by
 have e:Cg M b (a - 1):=by
  rw [hb,ha,hn];refine (Cg.mod _ _).trans ?_;refine Cg.trans ((((Cg.refl M M).sub (Cg.mod M (s+st))).mul_right v)) ?_;refine Cg.trans ?_ ((Cg.mod M ((M - s)*v)).symm.sub (Cg.refl M 1));refine Cg.of_dvd ⟨-k, ?_⟩;have h1:(M - (s+st))*v=(M - s)*v - v*st:=by
   rw [show M - (s+st)=(M - s) - st by omega,Int.sub_mul,Int.mul_comm st v]
  rw [h1,hv,Int.mul_neg];omega
 have hb0:0≤b∧b< M:=by rw [hb];exact yd _ _ (by omega)
 unfold Cg at e
 rwa [Int.emod_eq_of_lt hb0.1 hb0.2] at e
theorem IR(M A B:Int)(hM:1< M)(hA:A=0)(hB:B=(A - 1)%M):M=B+1:=by
 subst hA
 have:(0 - 1:Int)%M=M - 1:=by
  rw [show (0 - 1:Int)=(M - 1)+M*(-1) by omega,Int.add_mul_emod_self_left,Int.emod_eq_of_lt (by omega) (by omega)]
 omega
theorem Tq(B:Int)(h:0≤B)(x:Int)(hx:x=B+1):x.toNat=B.toNat+1:=by omega
theorem Gb(M A B:Int)(hA0:0≤A)(hA1:A< M)(hA:A≠0)(hB:B=(A - 1)%M):A=B+1:=by
 rw [hB,Int.emod_eq_of_lt (by omega) (by omega)];omega
def kkG(M v s:Int):Nat:=if s=0 then M.toNat else (((M - s)*v)%M).toNat
theorem Gs(M v st k s n:Int)(hM:1< M)(hv:v*st=1+M*k)(s0:0≤s)(s1:s< M)(hn:n=(s+st)%M)(h:n≠0):kkG M v s=kkG M v n+1:=by
 have key:=Hn M s n v st k _ _ hM hv hn rfl rfl;have b1:=yd ((M - n)*v) M (by omega);unfold kkG;rw [if_neg h];by_cases hz:s=0
 ·subst hz;rw [if_pos rfl];exact Tq _ b1.1 _ (IR M _ _ hM (by rw [Int.sub_zero,Int.mul_comm];exact Int.mul_emod_left v M) key)
 ·rw [if_neg hz];have b2:=yd ((M - s)*v) M (by omega);exact Tq _ b1.1 _ (Gb M _ _ b2.1 b2.2 (Jr M s v st k hv (by omega) s1) key)
theorem Ev(M v st k s:Int)(hM:1< M)(hv:v*st=1+M*k)(s0:0≤s)(s1:s< M): ∃f,kkG M v s=f+1:=by
 have h:kkG M v s≠0:=by
  unfold kkG;by_cases hz:s=0
  ·rw [if_pos hz];omega
  ·rw [if_neg hz];have b2:=yd ((M - s)*v) M (by omega)
   have:=Jr M s v st k hv (by omega) s1
   omega
 exact ⟨kkG M v s - 1,by omega⟩
theorem NM:(17428512612931826493:Int)*11400714819323198485=1+18446744073709551616*10771413168148108919:=by decide
def kk(s:Int):Nat:=kkG 18446744073709551616 17428512612931826493 s
theorem Eu(s:Int)(hs:U64 s)(h:xU s≠0):kk s=kk (xU s)+1:=
 Gs _ _ _ _ _ _ (by decide) NM hs.1 hs.2 (Of _) h
theorem DH(s:Int)(hs:U64 s): ∃f,kk s=f+1:=Ev _ _ _ _ _ (by decide) NM hs.1 hs.2
def Le(q:Int):Nat→Int→Int
 |0,s=>s
 |f+1,s=>if Da q (xU s) then xU s else Le q f (xU s)
def VQ(q s:Int):Int:=Le q (kk s) s
def JN(q s:Int):Int:=VI (IM (VQ q s)) q
theorem GK(q s:Int)(hs:U64 s)(h:Da q (xU s)=true):VQ q s=xU s:=by
 obtain ⟨f,hf⟩:=DH s hs;simp [VQ,hf,Le,h]
theorem EH(q s:Int)(hq:U64 q)(hs:U64 s)(h:Da q (xU s)=false):VQ q s=VQ q (xU s)∧kk s=kk (xU s)+1:=by
 have hz:xU s≠0:=by
  intro h0;rw [h0,Fd q hq] at h;cases h
 have hk:=Eu s hs hz;exact ⟨by simp [VQ,hk,Le,h],hk⟩
theorem Pe(q:Int): ∀(f:Nat) (s:Int),U64 s→U64 (Le q f s)
 |0,_,h=>h
 |f+1,s,_=>by
  unfold Le;split
  ·exact Uz s
  ·exact Pe q f _ (Uz s)
theorem JO(q s:Int)(h:U64 s):U64 (VQ q s):=Pe q _ s h
theorem Pm(q s:Int)(hq:U64 q):U64 (JN q s):=Lx _ _ (Rw _) hq
theorem ML(b:Nat)(s:Int)(w:World)(hs:U64 s)(hc:w.cell? ⟨b,0,none⟩=some (.int .u64 s))(hf:w.frozen? ⟨b,0,none⟩=false):
  Calls prog 149 #[.pointer (some ⟨b,0,none⟩)] w fun e w'=>e= .returned (.int .u64 (IM (xU s)))∧ ∃n,w'=(w.setCell ⟨b,0,none⟩ (.int .u64 (xU s))).drewN n:=by
 obtain ⟨s0,s1⟩:=hs;go_enter func149,ntmps149;go_wp2_with fail;go_ret;exact ⟨rfl,0,rfl⟩
theorem Il(x q:Int)(w:World)(hx:U64 x)(hq:U64 q):
  Calls prog 148 #[.int .u64 x, .int .u64 q] w fun e w'=>e= .returned (.int .u64 (VI x q))∧ ∃n,w'=w.drewN n:=by
 obtain ⟨x0,x1⟩:=hx;obtain ⟨q0,q1⟩:=hq;by_cases h:q=0
 ·subst h;have hr:VI x 0=x:=by simp [VI]
  rw [hr];clear hr;go_enter func148,ntmps148;go_wp2;go_ret;exact ⟨rfl,0,rfl⟩
 ·have hr:VI x q=x%q:=by simp [VI,h]
  have h':(q==0)=false:=by simpa using h
  have hp:0< q:=by omega
  rw [hr];clear hr h;go_enter func148,ntmps148;go_wp2;go_ret;exact ⟨rfl,0,rfl⟩
theorem Ht(q:Int)(_h:0< q):Vy (1%q) 0 q=18446744073709551616%q:=by
 unfold Vy;rw [Int.add_zero];exact ((Cg.mod q 1).mul_right _).trans (Cg.of_eq (Int.one_mul _))
theorem Ge(q:Int)(w:World)(hq:U64 q):
  Calls prog 150 #[.int .u64 q] w fun e w'=>e= .returned (.int .u64 (Yt q))∧ ∃n,w'=w.drewN n:=by
 obtain ⟨q0,q1⟩:=hq;by_cases h:q=0
 ·subst h;have hr:Yt 0=0:=by simp [Yt]
  rw [hr];clear hr;go_enter func150,ntmps150;go_wp2;go_ret;exact ⟨rfl,0,rfl⟩
 ·have h':(q==0)=false:=by simpa using h
  have hp:0< q:=by omega
  have hr:Yt q=Vy (1%q) 0 q:=by rw [Ht q hp];simp [Yt,h]
  rw [hr];obtain ⟨e0,e1⟩:=yd 1 q hp;clear hr h;go_enter func150,ntmps150;go_wp2_with fail;refine (Pp _ _ _ _ e0 (by decide) (by decide) q1 e1).mono ?_;rintro e w' ⟨rfl,n,rfl⟩;go_wp2;go_ret;exact ⟨rfl,_,rfl⟩
theorem Gj(b:Nat)(A:Option Addr)(c:Nat)(s d q:Int)(w:World)(hs:U64 s)(hq:U64 q)(hd0:0≤d)(hd:d< 4611686018427387904)
  (hb:Bk w b 174 #[.int .u64 s, .slice A 0 c, .int .i64 d]):
  Calls prog 98 #[.pointer (some ⟨b,0,none⟩), .int .u64 q] w fun e w'=>e= .returned (.int .u64 (JN q s))∧Bk w' b 174 #[.int .u64 (VQ q s), .slice A 0 c, .int .i64 (d+1)]∧w.grownBy w' (some b):=by
 have c0:w.cell? ⟨b,0,none⟩=some (.int .u64 s):=hb.cell 0;have c1:w.cell? ⟨b,1,none⟩=some (.slice A 0 c):=hb.cell 1;have c2:w.cell? ⟨b,2,none⟩=some (.int .i64 d):=hb.cell 2;have f0:w.frozen? ⟨b,0,none⟩=false:=hb.free 0;have f2:w.frozen? ⟨b,2,none⟩=false:=hb.free 2;have HB:=Lib.hid hb;have HS:=Lib.hid hs;have HQ:=Lib.hid hq;clear hb hs hq;go_enter func98,ntmps98;go_wp2_with fail;have hb1:Bk (w.setCell ⟨b,2,none⟩ (.int .i64 (d+1))) b 174 #[.int .u64 s, .slice A 0 c, .int .i64 (d+1)]:=(HB.out.set 2 _).of_eq rfl;have hg1:w.grownBy (w.setCell ⟨b,2,none⟩ (.int .i64 (d+1))) (some b):=xd (World.grownBy.refl w _) 2 _;clear c0 c1 c2 f0 f2;generalize w.setCell ⟨b,2,none⟩ (.int .i64 (d+1))=w1 at *;go_loopg [6] (kk s) (fun g s6 wx=> ∃s':Int,kk s'=g∧Hid (U64 s')∧Hid (VQ q s'=VQ q s)∧Hid (Bk wx b 174 #[.int .u64 s', .slice A 0 c, .int .i64 (d+1)]∧w.grownBy wx (some b)))
 case atStart=>exact ⟨s,rfl,HS,Lib.hid rfl,Lib.hid ⟨hb1,hg1⟩⟩
 case round=>
  clear hb1 hg1;obtain ⟨s',hk,hs',HD,HX⟩:=hrel;have d0:wr.cell? ⟨b,0,none⟩=some (.int .u64 s'):=HX.out.1.cell 0;have g0:wr.frozen? ⟨b,0,none⟩=false:=HX.out.1.free 0;have HN:=Lib.hid (ML b s' wr hs'.out d0 g0);have HL:=Lib.hid (fun w=>Il (IM (xU s')) q w (Rw _) HQ.out);have HO:=Lib.hid (fun w=>Ge q w HQ.out);have HX2:Hid (Bk (wr.setCell ⟨b,0,none⟩ (.int .u64 (xU s'))) b 174 #[.int .u64 (xU s'), .slice A 0 c, .int .i64 (d+1)]∧w.grownBy (wr.setCell ⟨b,0,none⟩ (.int .u64 (xU s'))) (some b)):=Lib.hid ⟨(HX.out.1.set 0 _).of_eq rfl,xd HX.out.2 0 _⟩;have hkk:=Lib.hid hk;clear d0 g0 hk;go_wp2_with fail;refine HN.out.mono ?_;rintro e w' ⟨rfl,n1,rfl⟩;go_wp2_with fail;refine (HO.out _).mono ?_;rintro e w' ⟨rfl,n2,rfl⟩;cases hacc:Da q (xU s') with
  |true=>
   have hA:decide (Yt q≤bits BinOp.xor IntKind.u64 IntKind.u64.max (IM (xU s')))=true:=hacc;have HE:=Lib.hid (GK q s' hs'.out hacc);clear hacc;go_wp2_with fail;refine (HL.out _).mono ?_;rintro e w' ⟨rfl,n3,rfl⟩;go_wp2;go_ret;have e1:VQ q s=xU s':=HD.out.symm.trans HE.out;refine ⟨?_, ?_, ?_⟩
   ·unfold JN;rw [e1];rfl
   ·rw [e1];exact HX2.out.1
   ·exact zf HX2.out.2 _
  |false=>
   have hA:decide (Yt q≤bits BinOp.xor IntKind.u64 IntKind.u64.max (IM (xU s')))=false:=hacc;obtain ⟨e1,e2⟩:=EH q s' HQ.out hs'.out hacc;have HE:=Lib.hid e1;have HK:=Lib.hid e2;clear hacc e1 e2;go_wp2;go_roundg (kk (xU s'))
   case measure=>rw [←hkk.out,HK.out];omega
   case rel=>exact ⟨xU s',rfl,Lib.hid (Uz _),Lib.hid (HE.out.symm.trans HD.out),Lib.hid ⟨HX2.out.1,zf HX2.out.2 _⟩⟩
theorem NP(w:World)(A:Option Addr)(n c:Nat):(binOp .eql 31 (.slice A n c) (.slice none 0 0)).run prog w= .ok (.bool A.isNone) w:=
 Lib.run_eql_slice_nil w _ 22 A n c 0 0 Tryz.underlying31
def IJ(w:World)(l:List Int)(e:Ending)(w':World):Prop:= ∃A c,e= .returned (.slice A l.length c)∧Rd w' A (nums l)∧l.length≤c∧c≤9223372036854775807∧(∀g o,A=some ⟨g,o,none⟩→w.heap.size≤g∧g< w'.heap.size)∧w.grownBy w' none
theorem Ie{w w0 w1:World}{l:List Int}{v:Value}{n:Nat}{row:Option Nat}(hn:n=l.length)(hown:w1.ownsRow w.heap.size 22 1 v n (nums l))(hg0:w.grownBy w0 none)(hg:w0.grownBy w1 row)(hr: ∀g,row=some g→w.heap.size≤g):IJ w l (.returned v) w1:=by
 subst hn;have hG:=zP hg0 hg hr;rcases hown.2 with ⟨hv,h0⟩|⟨g,cap,cur,hv,hb,hh,hnc,hcm,_,_⟩
 ·subst hv;refine ⟨none,0,by rw [h0], ?_,by omega,by omega,by simp,hG⟩
  have:l= []:=List.eq_nil_of_length_eq_zero h0
  subst this;exact Rd.nil _ _
 ·subst hv;exact ⟨_,cap,rfl,Rd.own hown,hnc,hcm,fun g' o e=>by injection e with e;injection e with e1 e2 e3;subst e1;exact ⟨hb,Bk.lt hh⟩,hG⟩
theorem Ls(x:Addr)(c:Nat)(l:List Int)(w:World)(hr:Rd w (some x) (nums l))(hn:l.length*8≤140737488351232):
  Calls prog 106 #[.slice (some x) l.length c] w (IJ w l):=by
 obtain ⟨i0,hi,hz0,hz1,hz2⟩:=info_parts Nk;have heq:=fun w=>NP w (some x) l.length c
 have hown:=World.ownsRow_made (base:=w.heap.size) (e:=22) (size:=1) w #[] 0 (Nat.le_refl _) (Nat.zero_le _) rfl;have hr1:Rd (w.alloc (.cells #[] 22)) (some x) (nums l):=hr.grown (World.grownBy_alloc w _ none) (by simp);have hc:=hr1.addr;go_enter func106,ntmps106;go_wp2_with (at_builtin;refine wpList_append_own _ rfl (.tmp 5) (.tmp 6) 31 rfl w.heap.size 22 i0 (.int .u64 0) 1 8 Tryz.underlying31 hi hz0 hz1 hz2 rfl (by decide) _ _ _ rfl hown x l.length c (nums l) rfl (by simp [nums]) hc (Gh l) (by unfold maxLen;omega) (by omega) (by simp) ?_);intro v' w1 hown1 hgrow _;have HO:=Lib.hid hown1;have HG:=Lib.hid hgrow;clear hown1 hgrow hc hr1 hown;go_wp2;go_ret;exact Ie (by simp) HO.out (World.grownBy_alloc w _ none) HG.out (by simp [Value.ownBlock])
theorem Lu(c:Nat)(w:World):
  Calls prog 106 #[.slice none 0 c] w fun e w'=>e= .returned (.slice none 0 0)∧w'=w:=by
 have heq:=fun w=>NP w none 0 c
 go_enter func106,ntmps106;go_wp2;go_ret;exact ⟨rfl,rfl⟩
def AH(w:World)(v:Value)(l:List Int):Prop:= ∃A c,v= .slice A l.length c∧Rd w A (nums l)∧l.length≤c∧c≤9223372036854775807
theorem If(v:Value)(l:List Int)(w:World)(h:AH w v l)(hn:l.length*8≤140737488351232):
  Calls prog 106 #[v] w (IJ w l):=by
 obtain ⟨A,c,rfl,hr,_,_⟩:=h;cases A with
 |none=>
  have hl:l= []:=by
   cases l with
   |nil=>rfl
   |cons x l=>obtain ⟨g,o,e,_⟩:=hr (by simp [nums]);cases e
  subst hl;refine (Lu c w).mono ?_;rintro e w' ⟨rfl,rfl⟩;exact ⟨none,0,rfl,Rd.nil _ _,Nat.le_refl _,by omega,by simp,World.grownBy.refl _ _⟩
 |some x=>exact Ls x c l w hr hn
def xI(l:List Int)(n:Nat):Array Value:=(nums l++List.replicate (n - l.length) (Value.int .u64 0)).toArray
theorem Lg(l:List Int)(n:Nat)(h:l.length≤n):(xI l n).size=n:=by simp [xI,nums];omega
theorem Pf(l:List Int)(n:Nat)(x:Int)(h:l.length< n):(xI l n).setIfInBounds l.length (.int .u64 x)=xI (l++ [x]) n:=by
 obtain ⟨k,hk⟩: ∃k,n - l.length=k+1:=⟨n - l.length - 1,by omega⟩;have hk':n - (l++ [x]).length=k:=by simp;omega
 unfold xI;rw [hk,hk',List.replicate_succ];simp only [List.setIfInBounds_toArray]
 congr 1
 rw [show l.length=(nums l).length by simp [nums]];rw [List.set_append_right _ _ (Nat.le_refl _)];simp [nums]
theorem Li(l:List Int):xI l l.length=(nums l).toArray:=by simp [xI]
theorem NO(l:List Int)(n k:Nat)(h:k< n)(hl:l.length≤n): ∃v,(xI l n)[k]? =some v:=⟨_,Array.getElem?_eq_getElem (by rw [Lg l n hl];exact h)⟩
theorem Lf(n:Nat):madeCells #[Value.int .u64 0] n=xI [] n:=by
 apply Array.ext';rw [toList_madeCells_one];simp [xI,nums]
theorem XA(w:World)(n:Nat)(h:n≤1048576):(Instr.makeSlice 31 (.int .i64 n) (.int .i64 n)).run prog w= .ok (.slice (some ⟨w.heap.size,0,none⟩) n n) (w.alloc (.cells (xI [] n) 22)):=by
 obtain ⟨i0,hi,hz0,hz1,hz2⟩:=info_parts Nk
 have:=run_make (P:=prog) w 31 22 i0 (.int .u64 0) Tryz.underlying31 hi hz0 .i64 .i64 n n (by omega) (Int.le_refl _) (by rw [hz2];omega) (by omega)
 rw [Int.toNat_natCast,hz1,Nat.mul_one] at this;rw [this, ←Lf];rfl
end
namespace FR
open Go
structure Lt where
 C:List (Nat×Value)→World→Prop
 R:Nat→Value→World→World→Prop
 G:World→World→Prop
 g: ∀{vs w w'},C vs w→G w w'→C vs w'
structure Qv (L:Lt) where
 p:List (Nat×Value)→Value→World→Prop
 st: ∀{vs v w w'},p vs v w→L.G w w'→p vs v w'
 sr: ∀{vs q u v w w'},L.C vs w→L.R q u w w'→p vs v w→p (vs++ [(q,u)]) v w'
def Qv.any{L:Lt}:Qv L:=⟨fun _ _ _=>True,fun _ _=>trivial,fun _ _ _=>trivial⟩
def Qv.eq{L:Lt}(u:Value):Qv L:=⟨fun _ v _=>v=u,fun h _=>h,fun _ _ h=>h⟩
def Qv.slot{L:Lt}(q:Nat):Qv L:=⟨fun vs v _=>(q,v)∈vs,fun h _=>h,fun _ _ h=>mAl _ h⟩
section
variable {L:Lt} {late:List Nat} {P:Program} {ops:Array Oper} {Q:Exit→Act→World→Prop} {n:Nat} {a0:Act} {w0:World}
def yC(T:Value→World→Prop)(dst:Option Tmp)(ds:List Deferred):Exit→Act→World→Prop:=fun e a' w'=>e= .normal∧a'.defers=ds∧T (match dst with|some d=>a'.eval (.tmp d)|none=>undef) w'
def VK(P:Program)(ops:Array Oper)(vs:List (Nat×Value))(Vs:List (Qv L))(Qt:Exit→Act→World→Prop)(o:Oper)(w:World):List (Nat×Tmp)→Act→Prop
 | [],a=>wpList P ops Qt [o] a w
 |(j,d)::js,a=> ∀x,(Vs.getD j Qv.any).p vs x w→VK P ops vs Vs Qt o w js (a.put (some d) x)
def nqB(ops:Array Oper)(late:List Nat)(n i:Nat)(nq:List Nat):Bool:=nq.all fun q=>match late[q]? with|some k=> !av ops i n k|none=>false
def Cn(L:Lt)(late:List Nat)(P:Program)(ops:Array Oper)(n:Nat)(Vs:List (Qv L))(ds:List Deferred)(i:Nat)(V:Qv L)(o:Oper)(js:List (Nat×Tmp))(a0:Act):Prop:=
 (late.contains i=false∧ ∃nq:List Nat,nqB ops late n i nq=true∧ ∀vs w,(∀x∈nq,x ∉ vs.map (·.1))→L.C vs w→VK P ops vs Vs (yC (fun v w'=>V.p vs v w'∧L.G w w') o.dst ds) o w js a0)∨
 (∃(q:Nat) (rq nq:List Nat),late[q]? =some i∧(rq.all fun x=>match late[x]? with|some k=>Region.waitsFor .any ops i k|none=>false)=true∧nqB ops late n i nq=true∧V=Qv.slot q∧ ∀vs w,q ∉ vs.map (·.1)→(∀x∈rq,x∈vs.map (·.1))→(∀x∈nq,x ∉ vs.map (·.1))→L.C vs w→VK P ops vs Vs (yC (fun v w'=>L.R q v w w'∧L.C (vs++ [(q,v)]) w') o.dst ds) o w js a0)
def LateR(L:Lt)(late:List Nat)(P:Program)(ops:Array Oper)(n:Nat)(a0:Act)(F:List (Qv L)→Prop):Nat→List (Qv L)→List Oper→Prop
 |0,Rs,_=>F Rs.reverse
 |_+1,_, []=>False
 |k+1,Rs,o::os=> ∃(V:Qv L) (js:List (Nat×Tmp)),(yo ops Rs.length js && yf ops n Rs.length js)=true∧Cn L late P ops n Rs.reverse a0.defers Rs.length V o js a0∧LateR L late P ops n a0 F k (V::Rs) os
theorem LateR.mono{F:List (Qv L)→Prop}{k:Nat}{Rs:List (Qv L)}{o:Oper}{os:List Oper}(V:Qv L)(js:List (Nat×Tmp))(hc:(yo ops Rs.length js && yf ops n Rs.length js)=true)(hl:late.contains Rs.length=false)(hA: ∀vs w,L.C vs w→VK P ops vs Rs.reverse (yC (fun v w'=>V.p vs v w'∧L.G w w') o.dst a0.defers) o w js a0)(h:LateR L late P ops n a0 F k (V::Rs) os):LateR L late P ops n a0 F (k+1) Rs (o::os):=⟨V,js,hc, .inl ⟨hl, [],rfl,fun vs w _ hC=>hA vs w hC⟩,h⟩
theorem LateR.monoN{F:List (Qv L)→Prop}{k:Nat}{Rs:List (Qv L)}{o:Oper}{os:List Oper}(V:Qv L)(js:List (Nat×Tmp))(nq:List Nat)(hc:(yo ops Rs.length js && yf ops n Rs.length js)=true)(hl:late.contains Rs.length=false)(hq:nqB ops late n Rs.length nq=true)(hA: ∀vs w,(∀x∈nq,x ∉ vs.map (·.1))→L.C vs w→VK P ops vs Rs.reverse (yC (fun v w'=>V.p vs v w'∧L.G w w') o.dst a0.defers) o w js a0)(h:LateR L late P ops n a0 F k (V::Rs) os):LateR L late P ops n a0 F (k+1) Rs (o::os):=⟨V,js,hc, .inl ⟨hl,nq,hq,hA⟩,h⟩
theorem LateR.turn{F:List (Qv L)→Prop}{k:Nat}{Rs:List (Qv L)}{o:Oper}{os:List Oper}(q:Nat)(js:List (Nat×Tmp))(hc:(yo ops Rs.length js && yf ops n Rs.length js)=true)(rq:List Nat)(hl:late[q]? =some Rs.length)(hr:(rq.all fun x=>match late[x]? with|some k=>Region.waitsFor .any ops Rs.length k|none=>false)=true)(hA: ∀vs w,q ∉ vs.map (·.1)→(∀x∈rq,x∈vs.map (·.1))→L.C vs w→VK P ops vs Rs.reverse (yC (fun v w'=>L.R q v w w'∧L.C (vs++ [(q,v)]) w') o.dst a0.defers) o w js a0)(h:LateR L late P ops n a0 F k (Qv.slot q::Rs) os):LateR L late P ops n a0 F (k+1) Rs (o::os):=⟨Qv.slot q,js,hc, .inr ⟨q,rq, [],hl,hr,rfl,rfl,fun vs w h1 h2 _ hC=>hA vs w h1 h2 hC⟩,h⟩
theorem LateR.out{F:List (Qv L)→Prop}: ∀{k:Nat} {Rs:List (Qv L)} {os:List Oper},LateR L late P ops n a0 F k Rs os→k≤os.length∧ ∃Ws:List (Qv L),Ws.length=k∧F (Rs.reverse++Ws)∧ ∀m o,m< k→os[m]? =some o→ ∃V js,Ws[m]? =some V∧(yo ops (Rs.length+m) js && yf ops n (Rs.length+m) js)=true∧Cn L late P ops n ((Rs.reverse++Ws).take (Rs.length+m)) a0.defers (Rs.length+m) V o js a0
 |0,Rs,os,h=>⟨Nat.zero_le _, [],rfl,by rw [List.append_nil];exact h,fun m o hm=>by omega⟩
 |_+1,_, [],h=>h.elim
 |k+1,Rs,o::os,⟨V,js,hb,hA,hM⟩=>by
  obtain ⟨hkl,Ws,hl,hF,hk⟩:=LateR.out hM;refine ⟨by simpa using hkl,V::Ws,by simp [hl],by simpa using hF,fun m o' hm ho=> ?_⟩;cases m with
  |zero=>
   obtain rfl:o=o':=by simpa using ho
   refine ⟨V,js,rfl,hb, ?_⟩
   have:(Rs.reverse++V::Ws).take (Rs.length+0)=Rs.reverse:=by
    rw [Nat.add_zero, ←List.length_reverse];exact List.take_left
   rw [this];exact hA
  |succ m=>
   obtain ⟨V',js',h1,h2,h3⟩:=hk m o' (by omega) (by simpa using ho);refine ⟨V',js',by simpa using h1, ?_, ?_⟩
   ·simpa [Nat.add_assoc,Nat.add_comm 1 m] using h2
   ·simpa [Nat.add_assoc,Nat.add_comm 1 m] using h3
def Xl(G:Act→World→Prop)(vs:List (Nat×Value))(w:World):List (Qv L)→List Oper→Act→Prop
 |V::Vs,o::os,a=> ∀x,V.p vs x w→Xl G vs w Vs os (a.put o.dst x)
 |_,_,a=>G a w
theorem Xl.all{G:Act→World→Prop}{vs:List (Nat×Value)}{w:World}{b:Act}: ∀{Vs:List (Qv L)} {os:List Oper} {a:Act},Vs.length=os.length→(∀(k:Nat) (V:Qv L) (o:Oper),Vs[k]? =some V→os[k]? =some o→V.p vs (match o.dst with|some d=>b.eval (.tmp d)|none=>undef) w)→Xl G vs w Vs os a→G (Oa b (os.map (·.dst)) a) w
 | [], [],_,_,_,h=>h
 |V::Vs,o::os,a,hl,hx,h=>Xl.all (Vs:=Vs) (os:=os) (by simpa using hl) (fun k V o hv ho=>hx (k+1) V o (by simpa using hv) (by simpa using ho)) (h _ (hx 0 V o rfl rfl))
 | [],_::_,_,hl,_,_=>by simp at hl
 |_::_, [],_,hl,_,_=>by simp at hl
theorem VK.all{vs:List (Nat×Value)}{Vs:List (Qv L)}{Qt:Exit→Act→World→Prop}{o:Oper}{w:World}{b:Act}: ∀{js:List (Nat×Tmp)} {a:Act},(∀x:Nat×Tmp,x∈js→(Vs.getD x.1 Qv.any).p vs (b.eval (.tmp x.2)) w)→VK P ops vs Vs Qt o w js a→wpList P ops Qt [o] (Oa b (js.map fun x=>some x.2) a) w
 | [],_,_,h=>h
 |(j,d)::js,a,hx,h=>VK.all (js:=js) (fun x hm=>hx x (mCm _ hm)) (h _ (hx (j,d) (by simp)))
def Cls(L:Lt)(late:List Nat)(vs:List (Nat×Value))(D:Array Bool)(w:World):Prop:=((vs.map (·.1)).Nodup∧ ∀q∈vs.map (·.1),q< late.length)∧L.C vs w∧ ∀q i,late[q]? =some i→(D.getD i false=true↔q∈vs.map (·.1))
structure Dc (L:Lt) (late:List Nat) (ops:Array Oper) (n:Nat) (a0:Act) (Vs:List (Qv L)) (vs:List (Nat×Value)) (D:Array Bool) (a:Act) (w:World):Prop where
 head:HeadInv .any ops n D
 cls:Cls L late vs D w
 tsize:a.tmps.size=a0.tmps.size
 defers:a.defers=a0.defers
 rest: ∀t,(∀j,j< n→D.getD j false=true→zY ops j≠some t)→a.tmps[t]? =a0.tmps[t]?
 known: ∀j V,D.getD j false=true→Vs[j]? =some V→V.p vs (Rb (zY ops j) a) w
theorem xq{T:Value→World→Prop}{dst:Option Tmp}{ds:List Deferred}: ¬LetsOut (yC T dst ds):=by
 rintro ⟨a,w',e,_⟩;cases e
def RE(n:Nat)(late:List Nat):Bool:=late.all (fun i=>decide (i< n)) && decide late.Nodup
theorem Rf{T:Value→World→Prop}{o:Oper}{a b:Act}{w:World}(hs: ∀cs b,o.op≠ .select cs b)(hd: ∀d,o.dst=some d→d< a.tmps.size)(hsz:b.tmps.size=a.tmps.size)(hlook: ∀t∈o.looksAt ops,b.tmps[t]? =a.tmps[t]?){i:Nat}(hi:ops[i]? =some o)
  (hdf:b.defers=a0.defers) (h:wpList P ops (yC T o.dst a0.defers) [o] b w):wpOp P ops Q i (fun a' w'=> ∃v,a'=a.put o.dst v∧T (match o.dst with|some _=>v|none=>undef) w') a w:=by
 have hex:execOp b.eval o=execOp a.eval o:=execOp_congr o hs fun x hx=>by
  cases x with
  |tmp t=>exact Yz _ _ _ (hlook t (mAl _ (List.mem_filterMap.2 ⟨.tmp t,by simpa using hx,rfl⟩)))
  |_=>rfl
 have hwn:Region.wanted o (yielded ops b.tmps)=Region.wanted o (yielded ops a.tmps):=by
  unfold Region.wanted;cases hg:o.guard with
  |none=>rfl
  |some gw=>
   obtain ⟨g,want⟩:=gw;have hy:yielded ops b.tmps g=yielded ops a.tmps g:=by
    unfold yielded;cases ht:(ops[g]?).bind (·.dst) with
    |none=>rfl
    |some t=>simp only [Option.bind_some,hlook t (by simp [Oper.looksAt,hg,ht])]
   simp only [hy]
 have fin: ∀v w',yC T o.dst a0.defers .normal (b.put o.dst v) w'→ ∃v',a.put o.dst v=a.put o.dst v'∧T (match o.dst with|some _=>v'|none=>undef) w':=by
  rintro v w' ⟨_,_,h1⟩;refine ⟨v,rfl, ?_⟩;cases hdd:o.dst with
  |none=>rw [hdd] at h1;exact h1
  |some d=>
   rw [hdd] at h1;have hlt:=hd d hdd
   have:(b.put (some d) v).eval (.tmp d)=v:=by simp [Act.put,Act.eval,Array.getD_eq_getD_getElem?,hsz,hlt]
   simp only [this] at h1;exact h1
 unfold wpOp;simp only [hi];simp only [wpList,hwn] at h;split
 ·rename_i hw;rw [if_pos hw] at h;rcases h with h|h
  ·left;unfold Oper.wp at h ⊢;rw [hex] at h;generalize (execOp a.eval o).run P w=r at *;cases r with
   |ok x w'=>
    cases x with
    |value v=>exact fin v w' h
    |skip=>exact fin undef w' h
    |enter f args=>
     refine Calls.mono h fun e w'' he=> ?_
     cases e with
     |returned u=>exact fin u w'' he
     |panicked c=>exact absurd he.1 (by simp)
     |outgrown=>exact absurd he xq
    |row row args=>exact Rows.mono h fun u w'' he=>fin u w'' he
    |defer d=>
     obtain ⟨_,h1,_⟩:=h;have h1:(Act.put {b with defers:=d::b.defers} o.dst undef).defers=a0.defers:=h1;rw [yN, ←hdf] at h1;exact absurd (congrArg List.length h1) (by simp)
    |_=>exact h.elim
   |halt x w'=>
    cases x with
    |panic v=>exact absurd h.1 (by simp)
    |_=>exact h.elim
  ·exact absurd h.2 xq
 ·rename_i hw;rw [if_neg hw] at h;exact fin undef w h
theorem UC{L:Lt}{late:List Nat}{vs vs2:List (Nat×Value)}{Vs:List (Qv L)}{D:Array Bool}{a a':Act}{w w':World}{i:Nat}{o:Oper}{V:Qv L}{v:Value}(inv:Dc L late ops n a0 Vs vs D a w)(hd:JX ops n a0.tmps.size=true)(hi:i∈Region.ready .any ops D)(hin:i< n)(ho:ops[i]? =some o)(hV:Vs[i]? =some V)(hnl:Vs.length≤n)
  (ha:a'=a.put o.dst v) (hv:V.p vs2 (match o.dst with|some _=>v|none=>undef) w') (hg: ∀(W:Qv L) (j:Nat),D.getD j false=true→Vs[j]? =some W→ ∀{u:Value},W.p vs u w→W.p vs2 u w') (hcl:Cls L late vs2 (D.setIfInBounds i true) w'):Dc L late ops n a0 Vs vs2 (D.setIfInBounds i true) a' w':=by
 subst ha;have hdi:zY ops i=o.dst:=by simp [zY,ho]
 have hun:D.getD i true=false:=(mem_ready.1 hi).1;have hlt:i< D.size:=by
  rcases Nat.lt_or_ge i D.size with h'|h'
  ·exact h'
  ·simp [Array.getElem?_eq_none h'] at hun
 refine ⟨inv.head.set hi hin,hcl,(YD _ _ _).trans inv.tsize,(yN _ _ _).trans inv.defers,fun t ht=> ?_,fun j W hj hW=> ?_⟩
 ·have h1:o.dst≠some t:=fun e=>ht i hin (by simp [hlt]) (hdi.trans e)
  refine Eq.trans ?_ (inv.rest t fun j hj hD=>ht j hj (getD_set_true hD));cases hdd:o.dst with
  |none=>rfl
  |some d=>exact Xv _ _ _ _ (fun e=>h1 (by rw [hdd,e]))
 ·by_cases e:i=j
  ·subst e;obtain rfl:V=W:=Option.some.inj (hV.symm.trans hW);rw [hdi];cases hdd:o.dst with
   |none=>rw [hdd] at hv;exact hv
   |some d=>
    rw [hdd] at hv;have hds:=zg hd hin;rw [hdi,hdd] at hds;simp only [Bool.and_eq_true,decide_eq_true_eq] at hds
    have:(a.put (some d) v).eval (.tmp d)=v:=by simp [Act.put,Act.eval,Array.getD_eq_getD_getElem?,inv.tsize,hds.1]
    show V.p vs2 ((a.put (some d) v).eval (.tmp d)) w';rw [this];exact hv
  ·have hjn:j< n:=by have:=(List.getElem?_eq_some_iff.1 hW).1;omega
   rw [getD_set_ne false e] at hj;have h1:=hg W j hj hW (inv.known j W hj hW);cases hdj:zY ops j with
   |none=>rw [hdj] at h1;exact h1
   |some dj=>
    rw [hdj] at h1;have h1:W.p vs2 (a.eval (.tmp dj)) w':=h1;show W.p vs2 ((a.put o.dst v).eval (.tmp dj)) w';cases hdd:o.dst with
    |none=>exact h1
    |some d=>
     have hds:=zg hd hin;rw [hdi,hdd] at hds;simp only [Bool.and_eq_true,decide_eq_true_eq] at hds;have h2:=zg hds.2 hjn;simp only [Bool.or_eq_true,beq_iff_eq,bne_iff_ne,ne_eq] at h2;have h3:d≠dj:=fun e'=>(h2.resolve_left (fun e2=>e e2.symm)) (by rw [hdj,e'])
     rw [Yz _ a dj (Xv a d dj v h3)];exact h1
theorem XZ{l:List Oper}(n:Nat)(hB:Yd l.toArray n a0.tmps.size=true)(U0:RE n late=true)(l1:L.C [] w0)
  (h:LateR L late P l.toArray n a0 (fun Vs=> ∀vs w,(vs.map (·.1)).Nodup∧(∀q,q< late.length↔q∈vs.map (·.1))→L.C vs w→Xl (fun a w=>wpList P l.toArray Q (l.drop n) a w) vs w Vs (l.take n) a0) n [] l):wpAny P .any l.toArray Q l.toArray.size (Array.replicate l.toArray.size false) a0 w0:=by
 simp only [Yd,Bool.and_eq_true,decide_eq_true_eq] at hB;obtain ⟨⟨⟨⟨z0,hn⟩,d0⟩,c0⟩,g0⟩:=hB;simp only [Mv,Bool.and_eq_true] at d0;obtain ⟨H0,y0⟩:=d0;simp only [RE,Bool.and_eq_true,decide_eq_true_eq] at U0;obtain ⟨B0,a1⟩:=U0;have r0: ∀i∈late,i< n:=fun i hi=>by simpa using List.all_eq_true.1 B0 i hi
 obtain ⟨_,Vs,T0,hF,hO⟩:=LateR.out h;rw [List.reverse_nil,List.nil_append] at hF;simp only [List.reverse_nil,List.nil_append,List.length_nil,Nat.zero_add] at hO;have n1:n≤l.length:=by simpa using hn
 have e0:(l.take n).length=n:=by simp;omega
 have p1:Vs.length=n:=T0;have S0:(l.drop n).length=l.toArray.size - n:=by simp
 have N0: ∀i o,i< n→l.toArray[i]? =some o→(l.take n)[i]? =some o:=fun i o hi ho=>by
  rw [List.getElem?_take,if_pos hi];simpa using ho
 have V0: ∀m vs D a w,Dc L late l.toArray n a0 Vs vs D a w→cnt D n=m→wpAny P .any l.toArray Q (m+(l.toArray.size - n)) D a w:=by
  intro m;induction m with
  |zero=>
   intro vs D a w inv hc;have b0:=xv hc;have hD:D=Array.replicate n true++Array.replicate (l.toArray.size - n) false:=by
    have x0:=inv.head.size;refine Array.ext (by simp [x0];omega) fun i h1 h2=> ?_
    rw [Array.getElem_append];by_cases hi:i< n
    ·have:=b0 i hi
     simp [h1] at this;simp [hi,this]
    ·have:=inv.head.tail i (by omega) (by omega)
     simp [h1] at this;simp [hi,this]
   have hk: ∀(k:Nat) (V:Qv L) (o:Oper),Vs[k]? =some V→(l.take n)[k]? =some o→V.p vs (match o.dst with|some d=>a.eval (.tmp d)|none=>undef) w:=by
    intro k V o hv ho;have O0:k< n:=by have:=(List.getElem?_eq_some_iff.1 hv).1;omega
    have h1:=inv.known k V (b0 k O0) hv;have h2:zY l.toArray k=o.dst:=by
     have:l[k]? =some o:=by rw [List.getElem?_take,if_pos O0] at ho;exact ho
     simp [zY,this]
    rw [h2] at h1;have h3:(match o.dst with|some d=>a.eval (.tmp d)|none=>undef)=Rb o.dst a:=by cases o.dst<;>rfl
    rw [h3];exact h1
   have v0:((vs.map (·.1)).Nodup∧(∀q,q< late.length↔q∈vs.map (·.1)))∧L.C vs w:=by
    obtain ⟨m0,l0,k0⟩:=inv.cls;exact ⟨⟨m0.1,fun q=>⟨fun h=>(k0 q late[q] (List.getElem?_eq_getElem h)).1 (b0 _ (r0 _ (lGm h))),m0.2 q⟩⟩,l0⟩
   have t0:=Xl.all (T0.trans e0.symm) hk (hF vs w v0.1 v0.2);have f0:Oa a ((l.take n).map (·.dst)) a0=a:=by
    refine Tb (fun t=>Zn a t _ _ inv.tsize.symm ?_) ((yn _ _ _).trans inv.defers.symm);by_cases ht:some t∈(l.take n).map (·.dst)
    ·exact .inl ht
    ·refine .inr (inv.rest t fun j hj _ e=>ht ?_).symm;have Q0:j< l.length:=by omega
     have:l[j].dst=some t:=by simpa [zY,Q0] using e
     exact List.mem_map.2 ⟨l[j],List.mem_iff_getElem?.2 ⟨j,by rw [List.getElem?_take,if_pos hj,List.getElem?_eq_getElem Q0]⟩,this⟩
   rw [f0] at t0
   have:=wpAny_of_seq (md:= .any) (Q':=Q) (l.drop n) n D a w (fun j=>by simp [List.getElem?_drop]) (by rw [S0,hD];exact y0) t0
   rw [S0] at this
   rwa [Nat.zero_add]
  |succ m ih=>
   intro vs D a w inv hc;have i0: ∀i∈Region.ready .any l.toArray D,i< n:=by
    intro i hi;rcases Nat.lt_or_ge i n with h'|h'
    ·exact h'
    ·obtain ⟨hu,oi,L0,b0⟩:=mem_ready.1 hi;have C0:i< l.toArray.size:=(Array.getElem?_eq_some_iff.1 L0).1;exfalso;obtain ⟨k,hk,D0⟩: ∃k,k< n∧D.getD k false=false:=by
      refine Classical.byContradiction fun X0=> ?_
      have: ∀k,k≤n→cnt D k=0:=by
       intro k;induction k with
       |zero=>intro _;rfl
       |succ k ihk=>
        intro hk;have h1:D.getD k false=true:=by
         refine Classical.byContradiction fun hx=>X0 ⟨k,by omega,by simpa using hx⟩
        simp only [cnt,h1,ihk (by omega)];rfl
      rw [this n (nRf _)] at hc;omega
     have hb:=zg H0 C0;simp only [Bool.or_eq_true,decide_eq_true_eq] at hb;have hb:=zg (hb.resolve_left (by omega)) hk;simp only [Bool.not_eq_true'] at hb;have R0:i≠k:=by omega
     have:av l.toArray k n i=true:=by
      have i1:=fun f j hj=>PF (ops:=l.toArray) inv.head.closed inv.head.size D0 f j hj
      cases o1:n with
      |zero=>simp [av,R0]
      |succ f=>
       simp only [av,L0,Option.map_some,Option.getD_some,Bool.and_eq_true,bne_iff_ne];refine ⟨R0, ?_⟩;rw [Array.all_eq_true_iff_forall_mem];intro e he;by_cases J0:Region.binds .any e=true
       ·simp [J0,i1 f e.on (b0 e he J0)]
       ·simp [J0]
     rw [hb] at this;cases this
   have A0:Region.ready .any l.toArray D≠ []:=by
    have d1: ∃k,k< n∧D.getD k false=false∧ ∀j,j< k→D.getD j false=true:=by
     have: ∀k,k≤n→(∃q,q< k∧D.getD q false=false∧ ∀j,j< q→D.getD j false=true)∨(cnt D k=0):=by
      intro k;induction k with
      |zero=>intro _;exact .inr rfl
      |succ k ihk=>
       intro hk;rcases ihk (by omega) with ⟨q,h1,h2⟩|h0
       ·exact .inl ⟨q,by omega,h2⟩
       ·cases hq:D.getD k false with
        |true=>right;simp only [cnt,hq,h0];rfl
        |false=>exact .inl ⟨k,by omega,hq,xv h0⟩
     rcases this n (nRf _) with ⟨q,h1,h2⟩|h0
     ·exact ⟨q,h1,h2⟩
     ·omega
    obtain ⟨k,hk,D0,I0⟩:=d1;have P0:k< l.toArray.size:=by omega
    have ho:l.toArray[k]? =some l.toArray[k]:=Array.getElem?_eq_getElem P0
    have:k∈Region.ready .any l.toArray D:=by
     refine mem_ready.2 ⟨getD_in (by rw [inv.head.size];exact P0) D0,_,ho,fun e he hb=>I0 _ ?_⟩;have ht:=zg c0 hk;simp only [ho,Option.map_some,Option.getD_some] at ht
     have:=Array.all_eq_true_iff_forall_mem.1 ht e he
     simpa [hb] using this
    intro e;rw [e] at this;cases this
   rw [show m+1+(l.toArray.size - n)=(m+(l.toArray.size - n))+1 by omega];refine ⟨fun e=>absurd e A0,fun i hi=> ?_⟩;have s0:=i0 i hi;obtain ⟨hu,o,ho,b0⟩:=mem_ready.1 hi;obtain ⟨V,js,hV,u0,K0⟩:=hO i o s0 (by simpa using ho);simp only [Bool.and_eq_true] at u0;obtain ⟨o0,q0⟩:=u0;have G0: ∀d,o.dst=some d→d< a.tmps.size:=by
    intro d hd
    have:=zg g0 s0
    have h2:zY l.toArray i=some d:=by simp only [zY,ho];exact hd
    rw [h2] at this;simp only [Bool.and_eq_true,decide_eq_true_eq] at this;rw [inv.tsize];exact this.1
   have c1: ∀x:Nat×Tmp,x∈js→zY l.toArray x.1=some x.2∧D.getD x.1 false=true∧x.1< i:=by
    intro x hx
    have:=List.all_eq_true.1 o0 x hx
    simp only [Bool.and_eq_true,beq_iff_eq] at this;obtain ⟨oj,p0,e,he,hb,f0⟩:=Region.waitsFor_spec this.2;obtain rfl:o=oj:=Option.some.inj (ho.symm.trans p0);have ht:=zg c0 s0;simp only [ho,Option.map_some,Option.getD_some] at ht;have ht:=Array.all_eq_true_iff_forall_mem.1 ht e he;simp only [hb,Bool.not_true,Bool.false_or,decide_eq_true_eq] at ht;exact ⟨this.1,by rw [←f0];exact b0 e he hb,by rw [←f0];exact ht⟩
   have F0: ∀x:Nat×Tmp,x∈js→((Vs.take i).getD x.1 Qv.any).p vs (a.eval (.tmp x.2)) w:=fun x hx=>by
    obtain ⟨h1,h2,h3⟩:=c1 x hx;have Z0:x.1< Vs.length:=by omega
    have h4:Vs[x.1]? =some Vs[x.1]:=List.getElem?_eq_getElem Z0;have h5:=inv.known x.1 _ h2 h4;rw [h1] at h5
    have:(Vs.take i).getD x.1 Qv.any=Vs[x.1]:=by
     rw [List.getD_eq_getElem?_getD,List.getElem?_take,if_pos h3,h4];rfl
    rw [this];exact h5
   obtain ⟨m0,l0,k0⟩:=inv.cls;have b1: ∀t∈o.looksAt l.toArray,(Oa a (js.map fun x=>some x.2) a0).tmps[t]? =a.tmps[t]? :=fun t ht=>by
    refine Zn a t _ _ inv.tsize.symm ?_;have h1:(o.looksAt l.toArray).all (fun t=>js.any (·.2==t)||MU l.toArray n i t)=true:=by
     simpa only [yf,ho,Option.map_some,Option.getD_some] using q0
    have h2:=List.all_eq_true.1 h1 t ht;simp only [Bool.or_eq_true] at h2;rcases h2 with h2|h2
    ·left;obtain ⟨x,hx,Y0⟩:=List.any_eq_true.1 h2;exact List.mem_map.2 ⟨x,hx,by rw [beq_iff_eq.1 Y0]⟩
    ·right;refine (inv.rest t fun j hj hD e=> ?_).symm;have h3:=zg h2 hj;simp only [Bool.or_eq_true,bne_iff_ne,ne_eq,beq_iff_eq] at h3;rcases h3 with (h3|h3)|h3
     ·exact h3 e
     ·obtain ⟨oj,p0,e',f1,g1,f0⟩:=Region.waitsFor_spec h3
      have:=inv.head.closed j oj p0 hD e' f1 g1
      rw [f0,getD_both hu] at this;cases this
     ·subst h3;rw [getD_both hu] at hD;cases hD
   obtain ⟨T,hA,hS⟩: ∃T:Value→World→Prop,VK P l.toArray vs (Vs.take i) (yC T o.dst a0.defers) o w js a0∧(∀v w',T v w'→ ∃vs2,V.p vs2 v w'∧(∀(W:Qv L) (j:Nat),D.getD j false=true→Vs[j]? =some W→ ∀{u:Value},W.p vs u w→W.p vs2 u w')∧Cls L late vs2 (D.setIfInBounds i true) w'):=by
    have M0: ∀nq:List Nat,nqB l.toArray late n i nq=true→ ∀x∈nq,x ∉ vs.map (·.1):=fun nq hb x hx hm=>by
     have hw:=List.all_eq_true.1 hb x hx;cases j0:late[x]? with
     |none=>rw [j0] at hw;cases hw
     |some k=>
      rw [j0] at hw;have j1:=(k0 x k j0).2 hm
      have:=PF (ops:=l.toArray) inv.head.closed inv.head.size (getD_both hu) n k j1
      simp [this] at hw
    rcases K0 with ⟨hnl',nq,hnqb,hA⟩|⟨q,rq,nq,hq,hrq,hnqb,hVq,hA⟩
    ·have A0: ∀q i',late[q]? =some i'→i≠i':=fun q i' hq e=>by
      subst e
      have:=List.contains_iff_mem.2 (List.mem_of_getElem? hq)
      rw [hnl'] at this;cases this
     exact ⟨_,hA vs w (M0 nq hnqb) l0,fun v w' hg=>⟨vs,hg.1,fun W j _ _ _ hp=>W.st hp hg.2,m0,L.g l0 hg.2,fun q i' hq=>by rw [getD_set_ne false (A0 q i' hq)];exact k0 q i' hq⟩⟩
    ·have k1:D.getD i false=false:=getD_both hu;have h1:q ∉ vs.map (·.1):=fun h=>by have:=(k0 q i hq).2 h;rw [k1] at this;cases this
     have h2: ∀x∈rq,x∈vs.map (·.1):=fun x hx=>by
      have hw:=List.all_eq_true.1 hrq x hx;cases j0:late[x]? with
      |none=>rw [j0] at hw;cases hw
      |some k=>
       rw [j0] at hw;obtain ⟨oj,p0,e,he,hb,f0⟩:=Region.waitsFor_spec hw;obtain rfl:o=oj:=Option.some.inj (ho.symm.trans p0);have h3:=b0 e he hb;rw [f0] at h3;exact (k0 x k j0).1 h3
     refine ⟨_,hA vs w h1 h2 (M0 nq hnqb) l0,fun v w' hg=>⟨vs++ [(q,v)],(by rw [hVq];show (q,v)∈vs++ [(q,v)];simp),fun W j hj hW _ hp=>W.sr l0 hg.1 hp,⟨?_,fun x hx=> ?_⟩,hg.2,fun q' i' n0=> ?_⟩⟩
     ·rw [lMa,List.nodup_append];exact ⟨m0.1,by simp,fun a ha b hb e=>by
       have hb:b=q:=by simpa using hb
       exact h1 (by rw [←hb, ←e];exact ha)⟩
     ·rw [lMa,mAp] at hx;rcases hx with hx|hx
      ·exact m0.2 x hx
      ·have hx:x=q:=by simpa using hx
       rw [hx];exact (List.getElem?_eq_some_iff.1 hq).1
     ·rw [lMa,mAp];by_cases e:i=i'
      ·subst e;have E0:q'=q:=(List.getElem?_inj (List.getElem?_eq_some_iff.1 n0).1 a1).1 (n0.trans hq.symm);have C0:i< D.size:=by
        rw [inv.head.size];exact (Array.getElem?_eq_some_iff.1 ho).1
       simp [C0,E0]
      ·rw [getD_set_ne false e,k0 q' i' n0]
       have:q'≠q:=fun e'=>e (by rw [e',hq] at n0;exact Option.some.inj n0)
       simp [this]
   have hW:=VK.all (b:=a) F0 hA;have W0:=Rf (Q:=Q) (ops:=l.toArray) (a0:=a0) (a:=a) (Region.noSelect_spec z0 i o · · ho) G0 ((ZP _ _ _).trans inv.tsize.symm) b1 ho (yn _ _ _) hW;refine wpOp_mono (fun a' w' hk=> ?_) W0;obtain ⟨v,ha,hT⟩:=hk;obtain ⟨vs2,hv,hs,v0⟩:=hS _ w' hT;exact ih vs2 _ a' w' (UC inv g0 hi s0 ho hV (by omega) ha hv hs v0) (by have:=(Vp (D:=D) (i:=i) n).2 s0 hu;omega)
 have h0:=V0 n [] (Array.replicate l.toArray.size false) a0 w0 ⟨⟨by simp,(fun j oj _ hD=>by rw [getD_replicate_false] at hD;cases hD),fun t _ ht=>by simp only [List.size_toArray] at ht ⊢;simp [ht]⟩,⟨⟨by simp,by simp⟩,l1,fun q i hq=>by rw [getD_replicate_false];simp⟩,rfl,rfl,fun _ _=>rfl,(fun j V hD=>by rw [getD_replicate_false] at hD;cases hD)⟩ (ZU _ n)
 rwa [show n+(l.toArray.size - n)=l.toArray.size by omega] at h0
theorem askl_do{T:Value→World→Prop}{ds:List Deferred}{o:Oper}{a:Act}{w:World}(hw:Region.wanted o (yielded ops a.tmps)=true)
  (h: ∀K':Act→World→Prop,(∀a' w',a'.defers=ds→T (match o.dst with|some d=>a'.eval (.tmp d)|none=>undef) w'→K' a' w')→o.wp P a w K' (yC T o.dst ds)):wpList P ops (yC T o.dst ds) [o] a w:=by
 unfold wpList;rw [if_pos hw];exact .inl (h _ fun a' w' h1 h2=>⟨rfl,h1,h2⟩)
def Ng(P:Program)(ops:Array Oper)(Q:Exit→Act→World→Prop)(vs:List (Nat×Value))(w:World):List (Qv L)→List Oper→Act→Prop
 |V::Vs,o::os,a=> ∀x,V.p vs x w→Ng P ops Q vs w Vs os (a.put o.dst x)
 |_,os,a=>wpList P ops Q os a w
theorem Ng.cut{vs:List (Nat×Value)}{w:World}: ∀{Vs:List (Qv L)} {os:List Oper} {a:Act},Vs.length≤os.length→Ng P ops Q vs w Vs os a→Xl (fun a w=>wpList P ops Q (os.drop Vs.length) a w) vs w Vs (os.take Vs.length) a
 | [],os,a,_,h=>by
  have h:wpList P ops Q os a w:=by cases os<;>exact h
  exact h
 |V::Vs, [],a,hl,_=>by simp at hl
 |V::Vs,o::os,a,hl,h=>fun x hx=>Ng.cut (Vs:=Vs) (os:=os) (by simpa using hl) (h x hx)
theorem LateR.weak{F G:List (Qv L)→Prop}: ∀{k:Nat} {Rs:List (Qv L)} {os:List Oper},LateR L late P ops n a0 F k Rs os→(∀Ws,Ws.length=Rs.length+k→F Ws→G Ws)→LateR L late P ops n a0 G k Rs os
 |0,Rs,_,h,hg=>hg _ (by simp) h
 |_+1,_, [],h,_=>h.elim
 |k+1,Rs,o::os,⟨V,js,hb,hA,hM⟩,hg=>⟨V,js,hb,hA,LateR.weak hM fun Ws hW=>hg Ws (by simp at hW ⊢;omega)⟩
theorem YU{l:List Oper}(n:Nat)(hB:Yd l.toArray n a0.tmps.size=true)(hBl:RE n late=true)(hC0:L.C [] w0)
  (h:LateR L late P l.toArray n a0 (fun Vs=> ∀vs w,(vs.map (·.1)).Nodup∧(∀q,q< late.length↔q∈vs.map (·.1))→L.C vs w→Ng P l.toArray Q vs w Vs l a0) n [] l):wpAny P .any l.toArray Q l.toArray.size (Array.replicate l.toArray.size false) a0 w0:=by
 refine XZ n hB hBl hC0 (LateR.weak h fun Ws hW hF vs w hvl hw=> ?_);have hn:=(LateR.out h).1;have hl:Ws.length=n:=by simpa using hW
 have:=Ng.cut (by rw [hl];exact hn) (hF vs w hvl hw)
 rwa [hl] at this
theorem wp_region_late{l:List Oper}{id:Nat}(L:Lt)(late:List Nat)(n:Nat)(hm:P.follows .mixedOrders=true)(hB:Yd l.toArray n a0.tmps.size=true)(hBl:RE n late=true)(hC0:L.C [] w0.drew)
  (h:LateR L late P l.toArray n a0 (fun Vs=> ∀vs w,(vs.map (·.1)).Nodup∧(∀q,q< late.length↔q∈vs.map (·.1))→L.C vs w→Ng P l.toArray Q vs w Vs l a0) n [] l):(Code.region id l.toArray true).wp P Q a0 w0:=
 wp_region_any hm (YU n hB hBl hC0 h)
end
section
variable {L:Lt} {late:List Nat} {P:Program} {ops:Array Oper} {n:Nat} {a0:Act} {F:List (Qv L)→Prop} {k:Nat} {Rs:List (Qv L)} {o:Oper} {os:List Oper}
theorem pQ{v:Value}{G:Value→Prop}(h:G v): ∀x,x=v→G x:=fun _ e=>e ▸ h
theorem mV(V:Qv L)(js:List (Nat×Tmp))(hA: ∀vs w,L.C vs w→VK P ops vs Rs.reverse (yC (fun v w'=>V.p vs v w'∧L.G w w') o.dst a0.defers) o w js a0)(h:LateR L late P ops n a0 F k (V::Rs) os)(hc:(yo ops Rs.length js && yf ops n Rs.length js)=true:=by kernel_rfl)(hl:late.contains Rs.length=false:=by kernel_rfl):LateR L late P ops n a0 F (k+1) Rs (o::os):=LateR.mono V js hc hl hA h
theorem mS(u:Value)(js:List (Nat×Tmp))(hA: ∀vs w,L.C vs w→VK P ops vs Rs.reverse (yC (fun v w'=>(Qv.eq (L:=L) u).p vs v w'∧L.G w w') o.dst a0.defers) o w js a0)(h:LateR L late P ops n a0 F k (Qv.eq u::Rs) os)(hc:(yo ops Rs.length js && yf ops n Rs.length js)=true:=by kernel_rfl)(hl:late.contains Rs.length=false:=by kernel_rfl):LateR L late P ops n a0 F (k+1) Rs (o::os):=LateR.mono _ js hc hl hA h
theorem kD{T:Value→World→Prop}{ds:List Deferred}{a:Act}{w:World}(h: ∀K:Act→World→Prop,(∀a' w',a'.defers=ds→T (match o.dst with|some d=>a'.eval (.tmp d)|none=>undef) w'→K a' w')→o.wp P a w K (yC T o.dst ds))(hw:Region.wanted o (yielded ops a.tmps)=true:=by rfl):wpList P ops (yC T o.dst ds) [o] a w:=askl_do hw h
theorem kE{T:Value→World→Prop}{ds:List Deferred}{a:Act}{w:World}(h: ∀K:Act→World→Prop,(∀a' w',a'.defers=ds→T (match o.dst with|some d=>a'.eval (.tmp d)|none=>undef) w'→K a' w')→o.wp P a w K (yC T o.dst ds))(hw:Region.wanted o (yielded ops a.tmps)=true:=by kernel_rfl):wpList P ops (yC T o.dst ds) [o] a w:=askl_do hw h
end
end FR
section
open Go Go.RowKit
theorem DN{vs:List (Nat×Value)}(h:(vs.map (·.1)).Nodup){q:Nat}{x y:Value}:(q,x)∈vs→(q,y)∈vs→x=y:=by
 induction vs with
 |nil=>intro hx;cases hx
 |cons a vs ih=>
  rw [List.map_cons,List.nodup_cons] at h;intro hx hy;rcases List.mem_cons.1 hx with e1|h1<;>rcases List.mem_cons.1 hy with e2|h2
  ·exact (Prod.ext_iff.1 (e1.trans e2.symm)).2
  ·exact absurd (List.mem_map.2 ⟨_,h2,by rw [←e1]⟩) h.1
  ·exact absurd (List.mem_map.2 ⟨_,h1,by rw [←e2]⟩) h.1
  ·exact ih h.2 h1 h2
theorem Ld{vs:List (Nat×Value)}{q:Nat}{x:Value}(h:(q,x)∈vs):q∈vs.map (·.1):=List.mem_map.2 ⟨_,h,rfl⟩
theorem zQ{vs:List (Nat×Value)}{q r:Nat}{u:Value}:r∈(vs++ [(q,u)]).map (·.1)↔r∈vs.map (·.1)∨r=q:=by simp
theorem RG{vs:List (Nat×Value)}{q:Nat}{u:Value}(h:(vs.map (·.1)).Nodup)(hq:q ∉ vs.map (·.1)):((vs++ [(q,u)]).map (·.1)).Nodup:=by
 rw [lMa,List.nodup_append];exact ⟨h,by simp,fun a ha b hb e=>by
  have hb:b=q:=by simpa using hb
  exact hq (by rw [←hb, ←e];exact ha)⟩
structure PY (D:World) (row:Option Nat) (ty:TypeId) (zero:Array Value) (Pre:World→Prop) (yt:Value→Array Value→World→Prop):Prop where
 row: ∀r,row=some r→r< D.heap.size
 pre: ∀{W W'},Pre W→W.grownBy W' none→Pre W'
 told: ∀{x cs W W'},yt x cs W→W.grownBy W' none→yt x cs W'
 store: ∀{x cs W W' g},yt x cs W→Bk W g ty zero→D.heap.size≤g→W.grownBy W' (some g)→yt x cs W'
structure XY (D:World) (row:Option Nat) (ty:TypeId) (zero:Array Value) (Pre:World→Prop) (yt:Value→Array Value→World→Prop) (vs:List (Nat×Value)) (W:World):Prop where
 g:D.grownBy W row
 pre:0 ∉ vs.map (·.1)→Pre W
 told: ∀x,(0,x)∈vs→ ∃cs,yt x cs W
 box: ∀x,(1,x)∈vs→ ∃g,x= .pointer (some ⟨g,0,none⟩)∧D.heap.size≤g∧(2 ∉ vs.map (·.1)→Bk W g ty zero)∧(2∈vs.map (·.1)→ ∃y cs,(0,y)∈vs∧yt y cs W∧Bk W g ty cs)
 two:2∈vs.map (·.1)→1∈vs.map (·.1)
 nd:(vs.map (·.1)).Nodup
section
variable {D:World} {row:Option Nat} {ty:TypeId} {zero:Array Value} {Pre:World→Prop} {yt:Value→Array Value→World→Prop} {vs:List (Nat×Value)} {W W':World}
theorem XY.start(h:Pre D):XY D row ty zero Pre yt [] D:=⟨gRr _ _,fun _=>h,by simp,by simp,by simp,by simp⟩
theorem XY.keep(ok:PY D row ty zero Pre yt)(h:XY D row ty zero Pre yt vs W)(hg:W.grownBy W' none):XY D row ty zero Pre yt vs W' where
 g:=h.g.trans (hg.but _)
 pre:=fun hn=>ok.pre (h.pre hn) hg
 told:=fun x hx=>by
  obtain ⟨cs,hc⟩:=h.told x hx;exact ⟨cs,ok.told hc hg⟩
 box:=fun x hx=>by
  obtain ⟨g,e,hl,h1,h2⟩:=h.box x hx;refine ⟨g,e,hl,fun hn=>(h1 hn).grown hg (by simp),fun hy=> ?_⟩;obtain ⟨y,cs,a,b,c⟩:=h2 hy;exact ⟨y,cs,a,ok.told b hg,c.grown hg (by simp)⟩
 two:=h.two
 nd:=h.nd
theorem XY.call(ok:PY D row ty zero Pre yt)(h:XY D row ty zero Pre yt vs W)(hn:0 ∉ vs.map (·.1)){x:Value}{cs:Array Value}(ht:yt x cs W')(hg:W.grownBy W' row):XY D row ty zero Pre yt (vs++ [(0,x)]) W' where
 g:=h.g.trans hg
 pre:=fun hm=>absurd (zQ.2 (.inr rfl)) hm
 told:=fun y hy=>by
  rcases List.mem_append.1 hy with hy|hy
  ·exact absurd (Ld hy) hn
  ·simp only [List.mem_singleton,Prod.mk.injEq,true_and] at hy;subst hy;exact ⟨cs,ht⟩
 box:=fun y hy=>by
  rcases List.mem_append.1 hy with hy|hy
  ·obtain ⟨g,e,hl,h1,h2⟩:=h.box y hy;refine ⟨g,e,hl,fun hm=>(h1 fun hk=>hm (zQ.2 (.inl hk))).grown hg (fun e=>by have:=ok.row g e.symm;omega),fun hm=> ?_⟩;rcases zQ.1 hm with hm|hm
   ·obtain ⟨z,_,hz,_⟩:=h2 hm;exact absurd (Ld hz) hn
   ·cases hm
  ·simp at hy
 two:=fun hm=>by
  rcases zQ.1 hm with hm|hm
  ·exact zQ.2 (.inl (h.two hm))
  ·cases hm
 nd:=RG h.nd hn
theorem XY.alloc(ok:PY D row ty zero Pre yt)(h:XY D row ty zero Pre yt vs W)(hn:1 ∉ vs.map (·.1)):XY D row ty zero Pre yt (vs++ [(1, .pointer (some ⟨W.heap.size,0,none⟩))]) (W.alloc (.cells zero ty)) where
 g:=h.g.trans ((gAl _ _ none).but _)
 pre:=fun hm=>ok.pre (h.pre fun hk=>hm (zQ.2 (.inl hk))) (gAl _ _ none)
 told:=fun y hy=>by
  rcases List.mem_append.1 hy with hy|hy
  ·obtain ⟨cs,hc⟩:=h.told y hy;exact ⟨cs,ok.told hc (gAl _ _ none)⟩
  ·simp at hy
 box:=fun y hy=>by
  have h2:2 ∉ (vs++ [(1,Value.pointer (some ⟨W.heap.size,0,none⟩))]:List (Nat×Value)).map (·.1):=fun hm=>by
   rcases zQ.1 hm with hm|hm
   ·exact hn (h.two hm)
   ·cases hm
  rcases List.mem_append.1 hy with hy|hy
  ·exact absurd (Ld hy) hn
  ·simp only [List.mem_singleton,Prod.mk.injEq,true_and] at hy;exact ⟨_,hy,h.g.size,fun _=>Bk.new _ _ _,fun hm=>absurd hm h2⟩
 two:=fun hm=>by
  rcases zQ.1 hm with hm|hm
  ·exact zQ.2 (.inl (h.two hm))
  ·cases hm
 nd:=RG h.nd hn
theorem XY.stored(ok:PY D row ty zero Pre yt)(h:XY D row ty zero Pre yt vs W)(hn:2 ∉ vs.map (·.1)){x u:Value}{cs:Array Value}{g:Nat}(hx:(0,x)∈vs)(ht:yt x cs W)(hp:(1, .pointer (some ⟨g,0,none⟩))∈vs)(hb:Bk W' g ty cs)(hg:W.grownBy W' (some g)):XY D row ty zero Pre yt (vs++ [(2,u)]) W':=by
 obtain ⟨g',e,hl,h1,_⟩:=h.box _ hp;injection e with e
 injection e with e
 injection e with e _ _
 subst e;have hz:=h1 hn;refine ⟨h.g.andThen hg (fun j e=> .inl (by injection e with e;omega)),fun hm=>absurd (zQ.2 (.inl (Ld hx))) hm,fun y hy=> ?_,fun y hy=> ?_,fun hm=>zQ.2 (.inl (Ld hp)),RG h.nd hn⟩
 ·rcases List.mem_append.1 hy with hy|hy
  ·obtain ⟨cs',hc⟩:=h.told y hy;exact ⟨cs',ok.store hc hz hl hg⟩
  ·simp at hy
 ·rcases List.mem_append.1 hy with hy|hy
  ·have:=DN h.nd hy hp
   exact ⟨g,this,hl,fun hm=>absurd (zQ.2 (.inr rfl)) hm,fun _=>⟨x,cs,mAl _ hx,ok.store ht hz hl hg,hb⟩⟩
  ·simp at hy
theorem XY.fin(h:XY D row ty zero Pre yt vs W)(hv: ∀q,q< 3↔q∈vs.map (·.1)){y:Value}(hy:(1,y)∈vs): ∃g x cs,y= .pointer (some ⟨g,0,none⟩)∧D.heap.size≤g∧(0,x)∈vs∧yt x cs W∧Bk W g ty cs∧D.grownBy W row:=by
 obtain ⟨g,e,hl,_,h2⟩:=h.box y hy;obtain ⟨x,cs,a,b,c⟩:=h2 ((hv 2).1 (by omega));exact ⟨g,x,cs,e,hl,a,b,c,h.g⟩
def GY(ok:PY D row ty zero Pre yt):FR.Lt where
 C:=XY D row ty zero Pre yt
 R _ _ _ _:=True
 G W W':=W.grownBy W' none
 g:=fun h hg=>h.keep ok hg
def zah{ok:PY D row ty zero Pre yt}:FR.Qv (GY ok):=FR.Qv.slot 0
def zai{ok:PY D row ty zero Pre yt}(f:Value→Value→Prop):FR.Qv (GY ok) where
 p vs v _:= ∃x,(0,x)∈vs∧f v x
 st:=fun h _=>h
 sr:=fun _ _ ⟨x,h,hf⟩=>⟨x,mAl _ h,hf⟩
end
structure PX (D:World) (row:Option Nat) (Pre:World→Prop) (yt:Value→World→Prop):Prop where
 row: ∀r,row=some r→r< D.heap.size
 pre: ∀{W W'},Pre W→W.grownBy W' none→Pre W'
 told: ∀{x W W'},yt x W→W.grownBy W' none→yt x W'
structure Xm (D:World) (row:Option Nat) (Pre:World→Prop) (yt:Value→World→Prop) (vs:List (Nat×Value)) (W:World):Prop where
 g:D.grownBy W row
 pre:0 ∉ vs.map (·.1)→Pre W
 told: ∀x,(0,x)∈vs→yt x W
section
variable {D:World} {row:Option Nat} {Pre:World→Prop} {yt:Value→World→Prop} {vs:List (Nat×Value)} {W W':World}
theorem Xm.start(h:Pre D):Xm D row Pre yt [] D:=⟨gRr _ _,fun _=>h,by simp⟩
theorem Xm.call(h:Xm D row Pre yt vs W)(hn:0 ∉ vs.map (·.1)){x:Value}(ht:yt x W')(hg:W.grownBy W' row):Xm D row Pre yt (vs++ [(0,x)]) W':=⟨h.g.trans hg,fun hm=>absurd (zQ.2 (.inr rfl)) hm,fun y hy=>by
 rcases List.mem_append.1 hy with hy|hy
 ·exact absurd (Ld hy) hn
 ·simp only [List.mem_singleton,Prod.mk.injEq,true_and] at hy;exact hy ▸ ht⟩
def Py(ok:PX D row Pre yt):FR.Lt where
 C:=Xm D row Pre yt
 R _ _ W W':=W.grownBy W' row
 G W W':=W.grownBy W' none
 g:=fun h hg=>⟨h.g.trans (hg.but _),fun hn=>ok.pre (h.pre hn) hg,fun x hx=>ok.told (h.told x hx) hg⟩
def BH{ok:PX D row Pre yt}:FR.Qv (Py ok):=FR.Qv.slot 0
def GW{ok:PX D row Pre yt}(f:Value→Value→Prop):FR.Qv (Py ok) where
 p vs v _:= ∃x,(0,x)∈vs∧f v x
 st:=fun h _=>h
 sr:=fun _ _ ⟨x,h,hf⟩=>⟨x,mAl _ h,hf⟩
def BI{ok:PX D row Pre yt}{α:Type}(E:Enc α)(xs:List α):FR.Qv (Py ok) where
 p _ v W:=Sl E (fun k=>D.heap.size≤k) W v xs
 st:=fun h hg=>h.kept hg
 sr:=fun _ hR h=>h.keep hR (fun g hg e=>by have:=ok.row g e.symm;omega)
end
section
variable {t1 t2:TypeId} {z1 z2 c1 c2:Array Value} {D W W':World} {vs:List (Nat×Value)} {u:Value} {g:Nat}
theorem YY{q r:Nat}{v:Value}(h:(r,v)∈vs++ [(q,u)])(hne:r≠q):(r,v)∈vs:=by
 rcases List.mem_append.1 h with h|h
 ·exact h
 ·rw [mSg] at h;injection h with h1 _
  exact absurd h1 hne
theorem Yw{q:Nat}{v:Value}(h:(q,v)∈vs++ [(q,u)])(hn:q ∉ vs.map (·.1)):v=u:=by
 rcases List.mem_append.1 h with h|h
 ·exact absurd (List.mem_map.2 ⟨_,h,rfl⟩) hn
 ·rw [mSg] at h;injection h
end
end
section
open Go
section
variable {P:Program} {Q:Exit→Act→World→Prop} {a0:Act} {w0:World}
end
end
section
open Go Go.RowKit
def pcs(l:List (Int×Int)):List Value:=l.flatMap fun x=> [.int .u64 x.1, .int .u64 x.2]
theorem Xy(x:Int×Int)(l:List (Int×Int)):pcs (x::l)= .int .u64 x.1:: .int .u64 x.2::pcs l:=rfl
theorem NG: ∀(l:List (Int×Int)) (k:Nat) (h:k< l.length),(pcs l)[k*2]? =some (.int .u64 l[k].1)
 |x::l,0,_=>rfl
 |x::l,k+1,h=>by
  rw [Xy,show (k+1)*2=k*2+1+1 by omega,List.getElem?_cons_succ,List.getElem?_cons_succ];exact NG l k (by simpa using h)
theorem NF: ∀(l:List (Int×Int)) (k:Nat) (h:k< l.length),(pcs l)[k*2+1]? =some (.int .u64 l[k].2)
 |x::l,0,_=>rfl
 |x::l,k+1,h=>by
  rw [Xy,show (k+1)*2+1=k*2+1+1+1 by omega,List.getElem?_cons_succ,List.getElem?_cons_succ];exact NF l k (by simpa using h)
theorem NE(a:Int): ∀(l:List (Int×Int)) (k:Nat) (h:k< l.length),(pcs l).set (k*2) (.int .u64 a)=pcs (l.set k (a,l[k].2))
 |x::l,0,_=>rfl
 |x::l,k+1,h=>by
  rw [Xy,show (k+1)*2=k*2+1+1 by omega,List.set_cons_succ,List.set_cons_succ,NE a l k (by simpa using h)];rfl
theorem ND(a:Int): ∀(l:List (Int×Int)) (k:Nat) (h:k< l.length),(pcs l).set (k*2+1) (.int .u64 a)=pcs (l.set k (l[k].1,a))
 |x::l,0,_=>rfl
 |x::l,k+1,h=>by
  rw [Xy,show (k+1)*2+1=k*2+1+1+1 by omega,List.set_cons_succ,List.set_cons_succ,ND a l k (by simpa using h)];rfl
theorem KP: ∀n:Nat,pcs (List.replicate n (0,0))=List.replicate (n*2) (.int .u64 0)
 |0=>rfl
 |n+1=>by
  rw [List.replicate_succ,Xy,KP n,show (n+1)*2=n*2+1+1 by omega,List.replicate_succ,List.replicate_succ]
theorem MP(n:Nat):(madeCells #[.int .u64 0, .int .u64 0] (n*2)).toList=pcs (List.replicate n (0,0)):=by
 rw [KP];refine List.ext_getElem (by simp [size_madeCells]) fun j h1 h2=> ?_
 have hj:j< n*2:=by simpa using h2
 simp only [madeCells,Array.toList_map,List.getElem_map,List.getElem_replicate];simp
 have:j%2=0∨j%2=1:=by omega
 rcases this with h|h<;>simp [h]
theorem BZ{w:World}{g:Nat}{l:List (Int×Int)}(h:Bk w g 153 (pcs l).toArray)(hu: ∀x∈l,U64 x.1∧U64 x.2)(hb:l.length≤100000):Sl zq TT w (.slice (some ⟨g,0,none⟩) l.length l.length) l:=by
 refine Sl.block h trivial (l.map fun x=> [.int .u64 x.1, .int .u64 x.2]) (by simp) (fun i hi hi'=> ?_) ?_ (nRf _) (by omega)
 ·simp only [List.getElem_map];exact ⟨rfl,hu _ (lGm hi)⟩
 ·simp [pcs,List.flatMap]
theorem FU{X:Nat→Prop}{w:World}{g:Nat}{l:List (Int×Int)}(h:Bk w g 153 (pcs l).toArray)(hX:X g)(hu: ∀x∈l,U64 x.1∧U64 x.2)(hb:l.length≤100000):Sl zq X w (.slice (some ⟨g,0,none⟩) l.length l.length) l:=by
 refine Sl.block h hX (l.map fun x=> [.int .u64 x.1, .int .u64 x.2]) (by simp) (fun i hi hi'=> ?_) ?_ (nRf _) (by omega)
 ·simp only [List.getElem_map];exact ⟨rfl,hu _ (lGm hi)⟩
 ·simp [pcs,List.flatMap]
theorem MM(n:Nat)(hn:n≤100000): ∀w',(Instr.makeSlice 72 (.int .i64 (n:Int)) (.int .i64 (n:Int))).run prog w'= .ok (.slice (some ⟨w'.heap.size,0,none⟩) n n) (w'.alloc (.cells (madeCells #[.int .u64 0, .int .u64 0] (n*2)) 153)):=fun w'=>by
 obtain ⟨i,hi,hz⟩:=Option.map_eq_some_iff.1 QV;simp only [Prod.mk.injEq] at hz;obtain ⟨hz1,hz2,hz3⟩:=hz;have hr:=run_make (P:=prog) w' 72 153 i _ Tryz.underlying72 hi hz1 .i64 .i64 (n:Int) (n:Int) (by omega) (Int.le_refl _) (by rw [hz3];omega) (by omega);rw [hz2,Int.toNat_natCast] at hr;exact hr
end
section
open Go.RowKit
def BY:List Int:= [0,1,56,2,57,49,28,3,61,58,42,50,38,29,17,4,62,47,59,36,45,43,51,22,53,39,33,30,24,18,12,5,63,55,48,27,60,41,37,16,46,35,44,21,52,32,23,11,54,26,40,15,34,20,31,10,25,14,19,9,13,8,7,6]
theorem CA: ∀j,j< 64→BY.getD j 0=((Lib.deBruijn64tab.getD j 0:Nat):Int):=by decide
theorem AM(j:Nat)(hj:j< Lib.deBruijn64tab.length):BY.getD j 0=((Lib.deBruijn64tab.getD j 0:Nat):Int):=CA j hj
def NK(cs:Array Value):Obj→Obj
 | .cells _ t f=> .cells cs t f
 |o=>o
end
end Go.Proofs.YtkdfjkdphdfclaaGreatDoor

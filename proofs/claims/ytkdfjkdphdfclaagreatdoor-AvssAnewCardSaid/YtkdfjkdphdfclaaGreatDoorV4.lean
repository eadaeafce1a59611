/- Part 4 of the proof of a card of AvssAnew. -/
import Derived.Test.YtkdfjkdphdfclaaGreatDoorV2
set_option maxRecDepth 100000
set_option maxHeartbeats 16000000
set_option linter.unusedVariables false
set_option linter.unusedSimpArgs false
namespace Go.Proofs.YtkdfjkdphdfclaaGreatDoor
open Tryz
section
open Go.RowKit
def yp(x lo hi:Int):Bool:=decide (lo≤x) && decide (x≤hi)
theorem xG(x lo hi:Int):yp x lo hi=true↔lo≤x∧x≤hi:=by simp [yp]
theorem yJ(x lo hi:Int)(b:Bool)(h:yp x lo hi=b)(w:World):
  Calls prog 73 #[.int .i64 x, .int .i64 lo, .int .i64 hi] w fun e w'=>e= .returned (.bool b)∧w'=w:=by
 subst h;by_cases h1:lo≤x
 ·by_cases h2:x≤hi
  ·have HE:Hid (yp x lo hi=true):=za (by simp [yp,h1,h2]);go_enter func73,ntmps73;go_wp2;go_ret;exact ⟨zn HE.z.symm,rfl⟩
  ·have HE:Hid (yp x lo hi=false):=za (by simp [yp,h2]);have h2':decide (x≤hi)=false:=by simpa using h2
   clear h2;go_enter func73,ntmps73;go_wp2;go_ret;exact ⟨zn HE.z.symm,rfl⟩
 ·have HE:Hid (yp x lo hi=false):=za (by simp [yp,h1]);have h1':decide (lo≤x)=false:=by simpa using h1
  clear h1;go_enter func73,ntmps73;go_wp2;go_ret;exact ⟨zn HE.z.symm,rfl⟩
def m1(p:Par):Bool:=decide (2≤p.P) && decide (p.P≤2305843009213693952) && decide (2≤p.Q) && ((p.P - 1)%p.Q==0)
def m2(p:Par):Bool:=yp p.T 1 2
def m3(p:Par):Bool:=yp p.N (3*p.T+1) 7 && decide (p.N< p.Q)
def m4(p:Par):Bool:=yp p.Nodes p.N 8
def m5(p:Par):Bool:=yp p.K 1 2 && yp p.D 1 4
def m6(p:Par):Bool:=yp p.R 1 p.D
def m7(p:Par):Bool:=yp p.M 1 1048576 && yp p.X 1 1048576
def m8(p:Par):Bool:=decide (2*(p.D*p.M*p.X+p.M)< p.Q)
def m9(p:Par):Bool:=Zl p.Q && Zl p.P
def m10(p:Par):Bool:=decide (p.G≠1) && isB p p.G && decide (p.H≠1) && isB p p.H
def Zv(p:Par):Bool:=m1 p && m2 p && m3 p && m4 p && m5 p && m6 p && m7 p && m8 p && m9 p && m10 p
theorem CT(p:Par)(g:Nat)(w:World)(hp:p.ok)(hb:Bk w g 39 p.cells):
  Calls prog 71 #[.pointer (some ⟨g,0,none⟩)] w fun e w'=>e= .returned (.bool (m1 p))∧w.grownBy w' none:=by
 have hc:=hb.prule;obtain ⟨p0,p1⟩:=hp.P;obtain ⟨q0,q1⟩:=hp.Q;clear hb hp;by_cases h1:2≤p.P
 ·by_cases h2:p.P≤2305843009213693952
  ·by_cases h3:2≤p.Q
   ·have HE:Hid (m1 p=((p.P - 1)%p.Q==0)):=za (by simp [m1,h1,h2,h3]);go_enter func71,ntmps71;go_wp2;go_ret;exact ⟨zn HE.z.symm,gRr w none⟩
   ·have HE:Hid (m1 p=false):=za (by simp [m1,h3]);have h3':decide (2≤p.Q)=false:=by simpa using h3
    clear h3;go_enter func71,ntmps71;go_wp2;go_ret;exact ⟨zn HE.z.symm,gRr w none⟩
  ·have HE:Hid (m1 p=false):=za (by simp [m1,h2]);have h2':decide (p.P≤2305843009213693952)=false:=by simpa using h2
   clear h2;go_enter func71,ntmps71;go_wp2;go_ret;exact ⟨zn HE.z.symm,gRr w none⟩
 ·have HE:Hid (m1 p=false):=za (by simp [m1,h1]);have h1':decide (2≤p.P)=false:=by simpa using h1
  clear h1;go_enter func71,ntmps71;go_wp2;go_ret;exact ⟨zn HE.z.symm,gRr w none⟩
theorem CS(p:Par)(g:Nat)(w:World)(hb:Bk w g 39 p.cells):
  Calls prog 72 #[.pointer (some ⟨g,0,none⟩)] w fun e w'=>e= .returned (.bool (m2 p))∧w.grownBy w' none:=by
 have hc:=hb.prule;have HW:=za (fun w=>yJ p.T 1 2 _ rfl w);clear hb;go_enter func72,ntmps72;go_wp2_with fail;refine (HW.z _).mono ?_;rintro e w' ⟨rfl,rfl⟩;go_wp2;go_ret;exact ⟨rfl,gRf⟩
theorem CR(p:Par)(g:Nat)(w:World)(hp:p.ok)(hb:Bk w g 39 p.cells)(h2:m2 p=true):
  Calls prog 74 #[.pointer (some ⟨g,0,none⟩)] w fun e w'=>e= .returned (.bool (m3 p))∧w.grownBy w' none:=by
 have hc:=hb.prule;obtain ⟨t0,t1⟩:=(xG _ _ _).1 h2;obtain ⟨q0,q1⟩:=hp.Q;clear hb hp h2;cases hN:yp p.N (3*p.T+1) 7 with
 |true=>
  obtain ⟨n0,n1⟩:=(xG _ _ _).1 hN;have HW:=za (fun w=>yJ p.N (3*p.T+1) 7 _ hN w);have HE:Hid (m3 p=decide (p.N< p.Q)):=za (by simp [m3,hN]);clear hN;go_enter func74,ntmps74;go_wp2_with fail;refine (HW.z _).mono ?_;rintro e w' ⟨rfl,rfl⟩;go_wp2;go_ret;exact ⟨zn HE.z.symm,gRf⟩
 |false=>
  have HW:=za (fun w=>yJ p.N (3*p.T+1) 7 _ hN w);have HE:Hid (m3 p=false):=za (by simp [m3,hN]);clear hN;go_enter func74,ntmps74;go_wp2_with fail;refine (HW.z _).mono ?_;rintro e w' ⟨rfl,rfl⟩;go_wp2;go_ret;exact ⟨zn HE.z.symm,gRf⟩
theorem CQ(p:Par)(g:Nat)(w:World)(hb:Bk w g 39 p.cells):
  Calls prog 75 #[.pointer (some ⟨g,0,none⟩)] w fun e w'=>e= .returned (.bool (m4 p))∧w.grownBy w' none:=by
 have hc:=hb.prule;have HW:=za (fun w=>yJ p.Nodes p.N 8 _ rfl w);clear hb;go_enter func75,ntmps75;go_wp2_with fail;refine (HW.z _).mono ?_;rintro e w' ⟨rfl,rfl⟩;go_wp2;go_ret;exact ⟨rfl,gRf⟩
theorem CP(p:Par)(g:Nat)(w:World)(hb:Bk w g 39 p.cells):
  Calls prog 76 #[.pointer (some ⟨g,0,none⟩)] w fun e w'=>e= .returned (.bool (m5 p))∧w.grownBy w' none:=by
 have hc:=hb.prule;clear hb;cases hN:yp p.K 1 2 with
 |true=>
  have HW:=za (fun w=>yJ p.K 1 2 _ hN w);have HV:=za (fun w=>yJ p.D 1 4 _ rfl w);have HE:Hid (m5 p=yp p.D 1 4):=za (by simp [m5,hN]);clear hN;go_enter func76,ntmps76;go_wp2_with fail;refine (HW.z _).mono ?_;rintro e w' ⟨rfl,rfl⟩;go_wp2_with fail;refine (HV.z _).mono ?_;rintro e w' ⟨rfl,rfl⟩;go_wp2;go_ret;exact ⟨zn HE.z.symm,gRf⟩
 |false=>
  have HW:=za (fun w=>yJ p.K 1 2 _ hN w);have HE:Hid (m5 p=false):=za (by simp [m5,hN]);clear hN;go_enter func76,ntmps76;go_wp2_with fail;refine (HW.z _).mono ?_;rintro e w' ⟨rfl,rfl⟩;go_wp2;go_ret;exact ⟨zn HE.z.symm,gRf⟩
theorem CO(p:Par)(g:Nat)(w:World)(hb:Bk w g 39 p.cells):
  Calls prog 77 #[.pointer (some ⟨g,0,none⟩)] w fun e w'=>e= .returned (.bool (m6 p))∧w.grownBy w' none:=by
 have hc:=hb.prule;have HW:=za (fun w=>yJ p.R 1 p.D _ rfl w);clear hb;go_enter func77,ntmps77;go_wp2_with fail;refine (HW.z _).mono ?_;rintro e w' ⟨rfl,rfl⟩;go_wp2;go_ret;exact ⟨rfl,gRf⟩
theorem CN(p:Par)(g:Nat)(w:World)(hb:Bk w g 39 p.cells):
  Calls prog 78 #[.pointer (some ⟨g,0,none⟩)] w fun e w'=>e= .returned (.bool (m7 p))∧w.grownBy w' none:=by
 have hc:=hb.prule;clear hb;cases hN:yp p.M 1 1048576 with
 |true=>
  have HW:=za (fun w=>yJ p.M 1 1048576 _ hN w);have HV:=za (fun w=>yJ p.X 1 1048576 _ rfl w);have HE:Hid (m7 p=yp p.X 1 1048576):=za (by simp [m7,hN]);clear hN;go_enter func78,ntmps78;go_wp2_with fail;refine (HW.z _).mono ?_;rintro e w' ⟨rfl,rfl⟩;go_wp2_with fail;refine (HV.z _).mono ?_;rintro e w' ⟨rfl,rfl⟩;go_wp2;go_ret;exact ⟨zn HE.z.symm,gRf⟩
 |false=>
  have HW:=za (fun w=>yJ p.M 1 1048576 _ hN w);have HE:Hid (m7 p=false):=za (by simp [m7,hN]);clear hN;go_enter func78,ntmps78;go_wp2_with fail;refine (HW.z _).mono ?_;rintro e w' ⟨rfl,rfl⟩;go_wp2;go_ret;exact ⟨zn HE.z.symm,gRf⟩
theorem Fr(a b x y:Int)(ha0:0≤a)(ha:a≤x)(hb0:0≤b)(hb:b≤y):0≤a*b∧a*b≤x*y:=
 ⟨Int.mul_nonneg ha0 hb0,Int.mul_le_mul ha hb hb0 (by omega)⟩
theorem CL(p:Par)(g:Nat)(w:World)(hp:p.ok)(hb:Bk w g 39 p.cells)(h5:m5 p=true)(h7:m7 p=true):
  Calls prog 79 #[.pointer (some ⟨g,0,none⟩)] w fun e w'=>e= .returned (.bool (m8 p))∧w.grownBy w' none:=by
 have hc:=hb.prule;simp only [m5,m7,Bool.and_eq_true,xG] at h5 h7;obtain ⟨_,d0,d1⟩:=h5;obtain ⟨⟨a0,a1⟩,x0,x1⟩:=h7;obtain ⟨q0,q1⟩:=hp.Q;obtain ⟨e0,e1⟩:=Fr p.D p.M 4 1048576 (by omega) d1 (by omega) a1;obtain ⟨f0,f1⟩:=Fr (p.D*p.M) p.X (4*1048576) 1048576 e0 e1 (by omega) x1;have HE:Hid (m8 p=decide (2*(p.D*p.M*p.X+p.M)< p.Q)):=za rfl;clear hb hp;go_enter func79,ntmps79;go_wp2;go_ret;exact ⟨zn HE.z.symm,gRf⟩
theorem Ik{w:World}{g o:Nat}{v:Value}(h:w.cell? ⟨g,o,none⟩=some v):g< w.heap.size:=by
 rcases Nat.lt_or_ge g w.heap.size with hlt|hge
 ·exact hlt
 ·simp [World.cell?,Array.getElem?_eq_none hge] at h
theorem ye.kept{w w':World}(h:ye w)(hg:w.grownBy w' none):ye w':=
 ⟨fun j hj=>by have:=h.1 j hj;rw [World.cell?_of_block (w:=w) (hg.block _ (Ik this) (by simp))];exact this,
  fun j hj=>by have:=h.2 j hj;rw [World.cell?_of_block (w:=w) (hg.block _ (Ik this) (by simp))];exact this⟩
theorem CK(p:Par)(g:Nat)(w:World)(hT:ye w)(hb:Bk w g 39 p.cells):
  Calls prog 80 #[.pointer (some ⟨g,0,none⟩)] w fun e w'=>e= .returned (.bool (m9 p))∧w.grownBy w' none:=by
 have hc:=hb.prule;have HQ:=QD p.Q w hT;have HP:=za (fun k=>QD p.P (w.drewN k) (hT.drewN k));clear hb hT;cases hQ:Zl p.Q with
 |true=>
  rw [hQ] at HQ;have HQ2:=za HQ;have HE:Hid (m9 p=Zl p.P):=za (by simp [m9,hQ]);clear hQ HQ;go_enter func80,ntmps80;go_wp2_with fail;refine HQ2.z.mono ?_;rintro e w' ⟨rfl,k,rfl⟩;go_wp2_with fail;refine (HP.z k).mono ?_;rintro e w' ⟨rfl,k2,rfl⟩;go_wp2;go_ret;exact ⟨zn HE.z.symm,zf (gRr w none) _⟩
 |false=>
  rw [hQ] at HQ;have HQ2:=za HQ;have HE:Hid (m9 p=false):=za (by simp [m9,hQ]);clear hQ HQ;go_enter func80,ntmps80;go_wp2_with fail;refine HQ2.z.mono ?_;rintro e w' ⟨rfl,k,rfl⟩;go_wp2;go_ret;exact ⟨zn HE.z.symm,zf (gRr w none) _⟩
theorem DK(p:Par)(x:Int)(b:Bool)(h:isB p x=b)(w:World)(hp:p.ok)(h1:U64 x):
  Calls prog 83 #[p.v, .int .u64 x] w fun e' w'=>e'= .returned (.bool b)∧w.grownBy w' none:=h ▸ Jq p x w hp h1
theorem DD(p:Par)(g:Nat)(w:World)(hp:p.ok)(hb:Bk w g 39 p.cells):
  Calls prog 82 #[.pointer (some ⟨g,0,none⟩)] w fun e w'=>e= .returned (.bool (m10 p))∧w.grownBy w' none:=by
 have hc:=hb.prule;have HB:=za hb;by_cases h1:p.G=1
 ·have h1':(p.G !=1)=false:=by simpa using h1
  have HE:Hid (m10 p=false):=za (by simp [m10,h1]);clear h1 hp hb;go_enter func82,ntmps82;go_wp2;go_ret;exact ⟨zn HE.z.symm,gRr w none⟩
 ·have h1':(p.G !=1)=true:=by simpa using h1
  cases hG:isB p p.G with
  |false=>
   have HI:=za (fun w=>DK p p.G _ hG w hp hp.G);have HE:Hid (m10 p=false):=za (by simp [m10,hG]);clear h1 hp hb hG;go_enter func82,ntmps82;go_wp2_with fail;refine (HI.z _).mono ?_;rintro e w1 ⟨rfl,hg⟩;have HG:=za hg;clear hg;go_wp2;go_ret;exact ⟨zn HE.z.symm,HG.z⟩
  |true=>
   have HI:=za (fun w=>DK p p.G _ hG w hp hp.G);by_cases h2:p.H=1
   ·have h2':(p.H !=1)=false:=by simpa using h2
    have HE:Hid (m10 p=false):=za (by simp [m10,h2]);clear h1 h2 hp hb hG;go_enter func82,ntmps82;go_wp2_with fail;refine (HI.z _).mono ?_;rintro e w1 ⟨rfl,hg⟩;have HG:=za hg;have hc1:=(HB.z.grown hg (by simp)).prule;clear hg;go_wp2;go_ret;exact ⟨zn HE.z.symm,HG.z⟩
   ·have h2':(p.H !=1)=true:=by simpa using h2
    have HJ:=za (fun w=>Jq p p.H w hp hp.H);have HE:Hid (m10 p=isB p p.H):=za (by simp [m10,hG,h1,h2]);clear h1 h2 hp hb hG;go_enter func82,ntmps82;go_wp2_with fail;refine (HI.z _).mono ?_;rintro e w1 ⟨rfl,hg⟩;have HG:=za hg;have hc1:=(HB.z.grown hg (by simp)).prule;clear hg;go_wp2_with fail;refine (HJ.z _).mono ?_;rintro e w2 ⟨rfl,hg⟩;have HG2:=za (HG.z.trans hg);clear hg;go_wp2;go_ret;exact ⟨zn HE.z.symm,HG2.z⟩
def ms(p:Par):List Bool:= [m1 p,m2 p,m3 p,m4 p,m5 p,m6 p,m7 p,m8 p,m9 p,m10 p]
def fvs(g:Nat):List Value:= [.func (.func 71) #[] #[.pointer (some ⟨g,0,none⟩)], .func (.func 72) #[] #[.pointer (some ⟨g,0,none⟩)], .func (.func 74) #[] #[.pointer (some ⟨g,0,none⟩)], .func (.func 75) #[] #[.pointer (some ⟨g,0,none⟩)], .func (.func 76) #[] #[.pointer (some ⟨g,0,none⟩)], .func (.func 77) #[] #[.pointer (some ⟨g,0,none⟩)], .func (.func 78) #[] #[.pointer (some ⟨g,0,none⟩)], .func (.func 79) #[] #[.pointer (some ⟨g,0,none⟩)], .func (.func 80) #[] #[.pointer (some ⟨g,0,none⟩)], .func (.func 82) #[] #[.pointer (some ⟨g,0,none⟩)]]
theorem BR(p:Par)(g:Nat)(w:World)(hp:p.ok)(_hT:ye w)(hb:Bk w g 39 p.cells):
  Calls prog 85 #[.func (.func 71) #[] #[.pointer (some ⟨g,0,none⟩)]] w fun e w'=>e= .returned (.bool (!m1 p))∧w.grownBy w' none:=by
 have HM:=za (CT p g w hp hb);clear hp _hT hb;go_enter func85,ntmps85;go_wp2_with fail;refine HM.z.mono ?_;rintro e w1 ⟨rfl,hg⟩;have HG:=za hg;clear hg;go_wp2;go_ret;exact ⟨rfl,HG.z⟩
theorem BQ(p:Par)(g:Nat)(w:World)(_hp:p.ok)(_hT:ye w)(hb:Bk w g 39 p.cells):
  Calls prog 85 #[.func (.func 72) #[] #[.pointer (some ⟨g,0,none⟩)]] w fun e w'=>e= .returned (.bool (!m2 p))∧w.grownBy w' none:=by
 have HM:=za (CS p g w hb);clear _hp _hT hb;go_enter func85,ntmps85;go_wp2_with fail;refine HM.z.mono ?_;rintro e w1 ⟨rfl,hg⟩;have HG:=za hg;clear hg;go_wp2;go_ret;exact ⟨rfl,HG.z⟩
theorem BP(p:Par)(g:Nat)(w:World)(hp:p.ok)(_hT:ye w)(hb:Bk w g 39 p.cells)(h2:m2 p=true):
  Calls prog 85 #[.func (.func 74) #[] #[.pointer (some ⟨g,0,none⟩)]] w fun e w'=>e= .returned (.bool (!m3 p))∧w.grownBy w' none:=by
 have HM:=za (CR p g w hp hb h2);clear hp _hT hb h2;go_enter func85,ntmps85;go_wp2_with fail;refine HM.z.mono ?_;rintro e w1 ⟨rfl,hg⟩;have HG:=za hg;clear hg;go_wp2;go_ret;exact ⟨rfl,HG.z⟩
theorem BO(p:Par)(g:Nat)(w:World)(_hp:p.ok)(_hT:ye w)(hb:Bk w g 39 p.cells):
  Calls prog 85 #[.func (.func 75) #[] #[.pointer (some ⟨g,0,none⟩)]] w fun e w'=>e= .returned (.bool (!m4 p))∧w.grownBy w' none:=by
 have HM:=za (CQ p g w hb);clear _hp _hT hb;go_enter func85,ntmps85;go_wp2_with fail;refine HM.z.mono ?_;rintro e w1 ⟨rfl,hg⟩;have HG:=za hg;clear hg;go_wp2;go_ret;exact ⟨rfl,HG.z⟩
theorem BN(p:Par)(g:Nat)(w:World)(_hp:p.ok)(_hT:ye w)(hb:Bk w g 39 p.cells):
  Calls prog 85 #[.func (.func 76) #[] #[.pointer (some ⟨g,0,none⟩)]] w fun e w'=>e= .returned (.bool (!m5 p))∧w.grownBy w' none:=by
 have HM:=za (CP p g w hb);clear _hp _hT hb;go_enter func85,ntmps85;go_wp2_with fail;refine HM.z.mono ?_;rintro e w1 ⟨rfl,hg⟩;have HG:=za hg;clear hg;go_wp2;go_ret;exact ⟨rfl,HG.z⟩
theorem BM(p:Par)(g:Nat)(w:World)(_hp:p.ok)(_hT:ye w)(hb:Bk w g 39 p.cells):
  Calls prog 85 #[.func (.func 77) #[] #[.pointer (some ⟨g,0,none⟩)]] w fun e w'=>e= .returned (.bool (!m6 p))∧w.grownBy w' none:=by
 have HM:=za (CO p g w hb);clear _hp _hT hb;go_enter func85,ntmps85;go_wp2_with fail;refine HM.z.mono ?_;rintro e w1 ⟨rfl,hg⟩;have HG:=za hg;clear hg;go_wp2;go_ret;exact ⟨rfl,HG.z⟩
theorem BL(p:Par)(g:Nat)(w:World)(_hp:p.ok)(_hT:ye w)(hb:Bk w g 39 p.cells):
  Calls prog 85 #[.func (.func 78) #[] #[.pointer (some ⟨g,0,none⟩)]] w fun e w'=>e= .returned (.bool (!m7 p))∧w.grownBy w' none:=by
 have HM:=za (CN p g w hb);clear _hp _hT hb;go_enter func85,ntmps85;go_wp2_with fail;refine HM.z.mono ?_;rintro e w1 ⟨rfl,hg⟩;have HG:=za hg;clear hg;go_wp2;go_ret;exact ⟨rfl,HG.z⟩
theorem BK(p:Par)(g:Nat)(w:World)(hp:p.ok)(_hT:ye w)(hb:Bk w g 39 p.cells)(h5:m5 p=true)(h7:m7 p=true):
  Calls prog 85 #[.func (.func 79) #[] #[.pointer (some ⟨g,0,none⟩)]] w fun e w'=>e= .returned (.bool (!m8 p))∧w.grownBy w' none:=by
 have HM:=za (CL p g w hp hb h5 h7);clear hp _hT hb h5 h7;go_enter func85,ntmps85;go_wp2_with fail;refine HM.z.mono ?_;rintro e w1 ⟨rfl,hg⟩;have HG:=za hg;clear hg;go_wp2;go_ret;exact ⟨rfl,HG.z⟩
theorem BJ(p:Par)(g:Nat)(w:World)(_hp:p.ok)(hT:ye w)(hb:Bk w g 39 p.cells):
  Calls prog 85 #[.func (.func 80) #[] #[.pointer (some ⟨g,0,none⟩)]] w fun e w'=>e= .returned (.bool (!m9 p))∧w.grownBy w' none:=by
 have HM:=za (CK p g w hT hb);clear _hp hT hb;go_enter func85,ntmps85;go_wp2_with fail;refine HM.z.mono ?_;rintro e w1 ⟨rfl,hg⟩;have HG:=za hg;clear hg;go_wp2;go_ret;exact ⟨rfl,HG.z⟩
theorem Cd(p:Par)(g:Nat)(w:World)(hp:p.ok)(_hT:ye w)(hb:Bk w g 39 p.cells):
  Calls prog 85 #[.func (.func 82) #[] #[.pointer (some ⟨g,0,none⟩)]] w fun e w'=>e= .returned (.bool (!m10 p))∧w.grownBy w' none:=by
 have HM:=za (DD p g w hp hb);clear hp _hT hb;go_enter func85,ntmps85;go_wp2_with fail;refine HM.z.mono ?_;rintro e w1 ⟨rfl,hg⟩;have HG:=za hg;clear hg;go_wp2;go_ret;exact ⟨rfl,HG.z⟩
theorem EU(p:Par)(g:Nat)(w:World)(hp:p.ok)(hT:ye w)(hb:Bk w g 39 p.cells): ∀(j:Nat) (_h:j< (fvs g).length) (h':j< (ms p).length),(∀i (hi:i< j),(ms p)[i]'(by omega)=true)→
  Calls prog 85 #[(fvs g)[j]] w fun e w'=>e= .returned (.bool (!(ms p)[j]))∧w.grownBy w' none
 |0,_,_,_=>BR p g w hp hT hb
 |1,_,_,_=>BQ p g w hp hT hb
 |2,_,_,hh=>BP p g w hp hT hb (hh 1 (by omega))
 |3,_,_,_=>BO p g w hp hT hb
 |4,_,_,_=>BN p g w hp hT hb
 |5,_,_,_=>BM p g w hp hT hb
 |6,_,_,_=>BL p g w hp hT hb
 |7,_,_,hh=>BK p g w hp hT hb (hh 4 (by omega)) (hh 6 (by omega))
 |8,_,_,_=>BJ p g w hp hT hb
 |9,_,_,_=>Cd p g w hp hT hb
 |n+10,h,_,_=>absurd h (by simp [fvs])
theorem NJ(p:Par):Zv p=(ms p).all id:=by simp [Zv,ms,Bool.and_assoc]
def Dg(p:Par)(w:World)(e:Ending)(w':World):Prop:= ∃n:Int,e= .returned (.int .i64 n)∧decide (0≤n)= !Zv p∧w.grownBy w' none
theorem JA(p:Par)(g ga:Nat)(t:TypeId)(w:World)(hp:p.ok)(hT:ye w)(hb:Bk w g 39 p.cells)(ha:Bk w ga t (fvs g).toArray):
  Calls prog 141 #[.slice (some ⟨ga,0,none⟩) 10 10, .func (.func 85) #[] #[]] w (Dg p w):=by
 have HP:=za hp;have HT:=za hT;have HB:=za hb;have HA:=za ha;clear hp hT hb ha;go_enter func141,ntmps141;go_wp2_with fail;go_loopg [8] 10 (fun n s8 wx=> ∃j:Nat,j+n=10∧s8= .int .i64 j∧Hid (w.grownBy wx none∧ ∀i (_:i< j) (h:i< (ms p).length),(ms p)[i]=true))
 case atStart=>exact ⟨0,by omega,rfl,za ⟨gRr w none,fun i hi=>absurd hi (by omega)⟩⟩
 case round=>
  obtain ⟨j,hj,rfl,HX⟩:=hrel;cases gk with
  |zero=>
   obtain rfl:j=10:=by omega
   have HE:Hid (Dg p w (.returned (.int .i64 (-1))) wr):=za ⟨-1,rfl,by
    have:Zv p=true:=by
     rw [NJ,List.all_eq_true];intro b hb;obtain ⟨i,hi,rfl⟩:=List.getElem_of_mem hb;exact HX.z.2 i (by simp [ms] at hi;omega) hi
    rw [this];rfl,HX.z.1⟩
   clear HX;go_wp2;go_ret;exact HE.z
  |succ k=>
   have hjn:(j:Int)< 10:=by omega
   have hj1:j< (fvs g).length:=by simp [fvs];omega
   have hj2:j< (ms p).length:=by simp [ms];omega
   have hcell:wr.cell? ⟨ga,j,none⟩=some (fvs g)[j]:=by
    rw [(HA.z.grown HX.z.1 (by simp)).cell j,List.getElem?_toArray];exact List.getElem?_eq_getElem hj1
   have HC:=za (EU p g wr HP.z (HT.z.kept HX.z.1) (HB.z.grown HX.z.1 (by simp)) j hj1 hj2 (fun i hi=>HX.z.2 i hi (by omega)));have HV:Hid ((ms p)[j]=true∨(ms p)[j]=false):=za (by cases (ms p)[j]<;>simp);have HR:Hid ((ms p)[j]=true→ ∀i (_:i< j+1) (h:i< (ms p).length),(ms p)[i]=true):=za (fun h i hi hl=>by
    rcases Nat.lt_or_ge i j with h1|h1
    ·exact HX.z.2 i h1 hl
    ·obtain rfl:i=j:=by omega
     exact h)
   have HN:Hid ((ms p)[j]=false→Zv p=false):=za (fun h=>by
    rw [NJ,Bool.eq_false_iff];intro hall;rw [List.all_eq_true] at hall
    have:=hall _ (lGm hj2)
    simp [h] at this)
   have HG:=za HX.z.1;generalize (fvs g)[j]=fv at *;generalize (ms p)[j]=b at *;clear HX hj1 hj2;rcases HV.z with rfl|rfl
   ·go_wp2_with fail;refine HC.z.mono ?_;rintro e w1 ⟨rfl,hg⟩;have HG1:=za (HG.z.trans hg);clear hg;go_wp2;go_roundg k
    case measure=>omega
    case rel=>exact ⟨j+1,by omega,by go_num,za ⟨HG1.z,HR.z (by simp)⟩⟩
   ·have HE:Hid (∀w1,w.grownBy w1 none→Dg p w (.returned (.int .i64 j)) w1):=za (fun w1 hg=>⟨j,rfl,by rw [HN.z rfl];simp,hg⟩);go_wp2_with fail;refine HC.z.mono ?_;rintro e w1 ⟨rfl,hg⟩;have HG1:=za (HG.z.trans hg);clear hg;go_wp2;go_ret;exact HE.z _ HG1.z
theorem Pu(p:Par)(g ga:Nat)(t:TypeId)(w:World)(hp:p.ok)(hT:ye w)(hb:Bk w g 39 p.cells)(ha:Bk w ga t (fvs g).toArray):
  Calls prog 84 #[.slice (some ⟨ga,0,none⟩) 10 10, .func (.func 85) #[] #[]] w fun e w'=>e= .returned (.bool (!Zv p))∧w.grownBy w' none:=by
 have HI:=za (JA p g ga t w hp hT hb ha);clear hp hT hb ha;go_enter func84,ntmps84;go_wp2_with fail;refine HI.z.mono ?_;rintro e w1 ⟨n,rfl,hn,hg⟩;have HN:=za hn;have HG:=za hg;clear hn hg;go_wp2;go_ret;exact ⟨zn HN.z,HG.z⟩
theorem OI(p:Par)(w:World)(hp:p.ok)(hT:ye w):
  Calls prog 36 #[p.v] w fun e w'=>e= .returned (.bool (Zv p))∧w.grownBy w' none:=by
 have hg1:w.grownBy (w.alloc (Obj.cells p.cells 39)) none:=gAl w _ none;have hg2:=gAl (w.alloc (Obj.cells p.cells 39)) (Obj.cells (fvs w.heap.size).toArray 26) none;have HC:=za (Pu p w.heap.size (w.heap.size+1) 26 ((w.alloc (Obj.cells p.cells 39)).alloc (Obj.cells (fvs w.heap.size).toArray 26)) hp (hT.kept (hg1.trans hg2)) ((Bk.new w _ _).alloc _)
  (by have:=Bk.new (w.alloc (Obj.cells p.cells 39)) 26 (fvs w.heap.size).toArray;rwa [World.size_alloc] at this))
 have HGR:=za (hg1.trans hg2);clear hp hT hg1 hg2;unfold fvs at HC HGR;go_enter func36,ntmps36;go_wp2_with fail;refine HC.z.mono ?_;rintro e w1 ⟨rfl,hg⟩;have HG:=za (HGR.z.trans hg);clear hg;go_wp2;go_ret;exact ⟨zn (by simp),HG.z⟩
theorem DE(P:Int)(h1:1≤P)(h2:P≤2305843009213693952):zO P=true:=by simp [zO];omega
theorem Yx{m:Int}(h:zO m=true):0< m∧m≤2305843009213693952:=by simpa [zO] using h
theorem Ys(P:Int)(hm:zO P=true):yh P []=1%P:=by
 show zR 1 1 P=_;rw [yG _ _ _ hm,Int.mul_one]
theorem Zy(P a b:Int)(hm:zO P=true):yh P [a,b]=a*b%P:=by
 show zR (zR (zR 1 1 P) a P) b P=_;rw [yG _ _ _ hm,yG _ _ _ hm,yG _ _ _ hm,Int.mul_one];exact ((Cg.mod P _).trans ((Cg.mod P 1).mul_right a|>.trans (Cg.of_eq (Int.one_mul a)))).mul_right b
theorem Ql(P a b:Int)(hm:zO P=true):Cg P (yh P [a,b]) (a*b):=by
 rw [Zy _ _ _ hm];exact Cg.mod _ _
theorem VW(a e P:Int)(hm:zO P=true):YW a e P=a ^ e.toNat%P:=by simp [YW,hm]
theorem Oz(a e P:Int)(hm:zO P=true):Cg P (YW a e P) (a ^ e.toNat):=by
 rw [VW _ _ _ hm];exact Cg.mod _ _
theorem NA{P x:Int}{n:Nat}(h:Cg P (x ^ n) 1)(k:Nat):Cg P (x ^ k) (x ^ (k%n)):=by
 have e:x ^ k=(x ^ n) ^ (k / n)*x ^ (k%n):=by
  rw [←Int.pow_mul, ←Int.pow_add,Nat.div_add_mod]
 rw [e];refine ((h.pow (k / n)).mul_right _).trans (Cg.of_eq ?_);rw [Int.one_pow,Int.one_mul]
theorem Kh(e Q:Int)(he:0≤e)(hQ:0< Q):(e%Q).toNat=e.toNat%Q.toNat:=by
 obtain ⟨a,rfl⟩:=Int.eq_ofNat_of_zero_le he;obtain ⟨b,rfl⟩:=Int.eq_ofNat_of_zero_le (Int.le_of_lt hQ);have e:((a:Int)%(b:Int))=((a%b:Nat):Int):=by simp
 rw [e,Int.toNat_natCast,Int.toNat_natCast,Int.toNat_natCast]
theorem KM{P x Q e:Int}(h:Cg P (x ^ Q.toNat) 1)(he:0≤e)(hQ:0< Q):Cg P (x ^ (e%Q).toNat) (x ^ e.toNat):=by
 rw [Kh e Q he hQ];exact (NA h _).symm
theorem NC{P x Q e f:Int}(h:Cg P (x ^ Q.toNat) 1)(he:0≤e)(hf:0≤f)(hQ:zO Q=true):Cg P (x ^ (xn e f Q).toNat) (x ^ e.toNat*x ^ f.toNat):=by
 rw [yO _ _ _ hQ];refine (KM h (by omega) (Yx hQ).1).trans (Cg.of_eq ?_);rw [←Int.pow_add,Int.toNat_add he hf]
theorem NB{P x Q e f:Int}(h:Cg P (x ^ Q.toNat) 1)(he:0≤e)(hf:0≤f)(hQ:zO Q=true):Cg P (x ^ (zR e f Q).toNat) ((x ^ e.toNat) ^ f.toNat):=by
 rw [yG _ _ _ hQ];refine (KM h (Int.mul_nonneg he hf) (Yx hQ).1).trans (Cg.of_eq ?_);rw [←Int.pow_mul,Int.toNat_mul he hf]
structure FG (p:Par):Prop where
 P:zO p.P=true
 Q:zO p.Q=true
 P2:2≤p.P
 Q2:2≤p.Q
 G:Cg p.P (p.G ^ p.Q.toNat) 1
 H:Cg p.P (p.H ^ p.Q.toNat) 1
 T:1≤p.T∧p.T≤2
 N:3*p.T+1≤p.N∧p.N≤7∧p.N< p.Q
 K:1≤p.K∧p.K≤2
 D:1≤p.D∧p.D≤4
 prime:Zl p.Q=true∧Zl p.P=true
 M:1≤p.M∧p.M≤1048576
 X:1≤p.X∧p.X≤1048576
 big:2*(p.D*p.M*p.X+p.M)< p.Q
theorem DL{p:Par}{x:Int}(hP:zO p.P=true)(h2:2≤p.P)(h:isB p x=true):Cg p.P (x ^ p.Q.toNat) 1:=by
 simp only [isB,Bool.and_eq_true,beq_iff_eq] at h;have e:=h.2;rw [VW _ _ _ hP] at e;unfold Cg;rw [e,Int.emod_eq_of_lt (by decide) (by omega)]
theorem Vi{p:Par}(h:Zv p=true):FG p:=by
 simp only [Zv,m1,m2,m3,m4,m5,m6,m7,m8,m9,m10,Bool.and_eq_true,xG,decide_eq_true_eq,beq_iff_eq] at h;obtain ⟨⟨⟨⟨⟨⟨⟨⟨⟨⟨⟨⟨a1,a2⟩,a3⟩,a4⟩,b1,b2⟩,⟨c1,c2⟩,c3⟩,d1⟩,⟨e1,e2⟩,f1,f2⟩,g1⟩,⟨i1,i2⟩,j1,j2⟩,k1⟩,l1,l2⟩,⟨⟨n1,n2⟩,n3⟩,n4⟩:=h;have hP:=DE p.P (by omega) a2;have hd:p.Q ∣ p.P - 1:=Int.dvd_of_emod_eq_zero a4;have hQ:p.Q≤p.P - 1:=Int.le_of_dvd (by omega) hd;exact ⟨hP,DE p.Q (by omega) (by omega),a1,a3,DL hP a1 n2,DL hP a1 n4,⟨b1,b2⟩,⟨c1,c2,c3⟩,⟨e1,e2⟩,⟨f1,f2⟩,⟨l1,l2⟩,⟨i1,i2⟩,⟨j1,j2⟩,k1⟩
theorem ZR(p:Par)(x:Int×Int)(hm:zO p.P=true):zj p x=p.G ^ x.1.toNat*p.H ^ x.2.toNat%p.P:=by
 unfold zj;rw [Zy _ _ _ hm];exact (Oz _ _ _ hm).mul (Oz _ _ _ hm)
theorem XO(p:Par)(x:Int×Int)(hm:zO p.P=true):Cg p.P (zj p x) (p.G ^ x.1.toNat*p.H ^ x.2.toNat):=by
 rw [ZR _ _ hm];exact Cg.mod _ _
theorem Ap(a b c d:Int):a*b*(c*d)=a*c*(b*d):=by
 rw [Int.mul_assoc,Int.mul_assoc, ←Int.mul_assoc b c d,Int.mul_comm b c,Int.mul_assoc c b d]
theorem Dv{p:Par}(h:FG p)(x y:Int×Int)(x1:0≤x.1)(x2:0≤x.2)(y1:0≤y.1)(y2:0≤y.2):yh p.P [zj p x,zj p y]=zj p (xn x.1 y.1 p.Q,xn x.2 y.2 p.Q):=by
 rw [Zy _ _ _ h.P,ZR p (xn x.1 y.1 p.Q,xn x.2 y.2 p.Q) h.P];refine ((XO _ _ h.P).mul (XO _ _ h.P)).trans ?_;rw [Ap];exact ((NC h.G x1 y1 h.Q).mul (NC h.H x2 y2 h.Q)).symm
theorem Du{p:Par}(h:FG p)(x:Int×Int)(k:Int)(x1:0≤x.1)(x2:0≤x.2)(hk:0≤k):YW (zj p x) k p.P=zj p (zR x.1 k p.Q,zR x.2 k p.Q):=by
 rw [VW _ _ _ h.P,ZR p (zR x.1 k p.Q,zR x.2 k p.Q) h.P];refine ((XO _ _ h.P).pow _).trans ?_;rw [Int.mul_pow];exact ((NB h.G x1 hk h.Q).mul (NB h.H x2 hk h.Q)).symm
def VL(Q i:Int):List (Int×Int)→Int×Int→Int→Int×Int
 | [],v,_=>v
 |y::l,v,e=>VL Q i l (xn v.1 (zR y.1 e Q) Q,xn v.2 (zR y.2 e Q) Q) (zR e i Q)
theorem OU{p:Par}(h:FG p):zj p (0,0)=yh p.P []:=by
 rw [ZR _ _ h.P,Ys _ h.P];simp
theorem FD{p:Par}(h:FG p)(i:Int)(hi:0≤i): ∀(l:List (Int×Int)) (v:Int×Int) (e:Int),(∀y∈l,0≤y.1∧0≤y.2)→0≤v.1→0≤v.2→0≤e→
  Mg p i (l.map (zj p)) (zj p v) e=zj p (VL p.Q i l v e)
 | [],v,e,_,_,_,_=>rfl
 |y::l,v,e,hl,h1,h2,he=>by
  obtain ⟨y1,y2⟩:=hl y (by simp);have k1:=yw y.1 e p.Q;have k2:=yw y.2 e p.Q;have k3:=yw e i p.Q;have k4:=XT v.1 (zR y.1 e p.Q) p.Q;have k5:=XT v.2 (zR y.2 e p.Q) p.Q;show Mg p i (l.map (zj p)) (yh p.P [zj p v,YW (zj p y) e p.P]) (zR e i p.Q)=_;rw [Du h y e y1 y2 he,Dv h v _ h1 h2 k1.1 k2.1];exact FD h i hi l _ _ (fun z hz=>hl z (by simp [hz])) k4.1 k5.1 k3.1
theorem LF{p:Par}(h:FG p)(i:Int)(hi:0≤i)(l:List (Int×Int))(hl: ∀y∈l,0≤y.1∧0≤y.2):atI p (l.map (zj p)) i=zj p (VL p.Q i l (0,0) 1):=by
 unfold atI;rw [←OU h,show zR 1 1 p.Q=1 by rw [yG _ _ _ h.Q];exact Int.emod_eq_of_lt (by decide) (by have:=h.Q2;omega)];exact FD h i hi l _ _ hl (by decide) (by decide) (by decide)
end
end Go.Proofs.YtkdfjkdphdfclaaGreatDoor

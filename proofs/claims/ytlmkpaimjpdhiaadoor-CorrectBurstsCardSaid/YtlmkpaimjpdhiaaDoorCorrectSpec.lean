/- A part of the proof. -/
import Derived.Test.YtlmkpaimjpdhiaaDoorPkLaw
set_option linter.all false
namespace Go.Pw
set_option maxRecDepth 100000
abbrev F:=Fin 16
def fI:List F:=[1,2,4,8,3,6,12,11,5,10,7,14,15,13,9]
def fx:List Nat:=[0,0,1,4,2,8,5,10,3,14,9,7,6,13,11,12]
def gp (n:Nat):F:=fI[n % 15]?.getD 0
def lg (a:F):Nat:=fx[a.val]?.getD 0
def fa (a b:F):F:=a ^^^ b
def fm (a b:F):F:=if a=0∨b=0 then 0 else gp (lg a+lg b)
def fi (a:F):F:=gp (15 - lg a)
theorem LY:∀a b:F,fa a b=fa b a:=by decide +kernel
theorem Db:∀a b c:F,fa (fa a b) c=fa a (fa b c):=by decide +kernel
theorem CM:∀a:F,fa a 0=a:=by decide +kernel
theorem Gp:∀a:F,fa 0 a=a:=by decide +kernel
theorem E2:∀a:F,fa a a=0:=by decide +kernel
theorem Cn:∀a b:F,fm a b=fm b a:=by decide +kernel
theorem E1:∀a b c:F,fm (fm a b) c=fm a (fm b c):=by decide +kernel
theorem KK:∀a b c:F,fm a (fa b c)=fa (fm a b) (fm a c):=by decide +kernel
theorem H8:∀a:F,fm a 1=a:=by decide +kernel
theorem QK:∀a:F,fm 1 a=a:=by decide +kernel
theorem Cz:∀a:F,fm a 0=0:=by decide +kernel
theorem B8:∀a:F,fm 0 a=0:=by decide +kernel
theorem bu:∀a:F,a≠0→fm a (fi a)=1:=by decide +kernel
theorem GN:∀a b:F,fa a b=0→a=b:=by decide +kernel
theorem Ny:∀a b:F,fm a b=0→a=0∨b=0:=by decide +kernel
theorem eO:∀a:F,fi a≠0:=by decide +kernel
theorem YC:∀a:F,lg a < 15:=by decide +kernel
theorem Km (n:Nat):gp (n % 15)=gp n:=by unfold gp;rw [Nat.mod_mod]
theorem R7:∀n:Fin 15,gp n.val≠0:=by decide +kernel
theorem fj (n:Nat):gp n≠0:=by rw [←Km];exact R7 ⟨n % 15,Nat.mod_lt _ (by omega)⟩
theorem QW:∀n m:Fin 15,gp (n.val+m.val)=fm (gp n.val) (gp m.val):=by decide +kernel
theorem QX (n m:Nat):gp (n+m)=fm (gp n) (gp m):=by
 have h:=QW ⟨n % 15,Nat.mod_lt _ (by omega)⟩ ⟨m % 15,Nat.mod_lt _ (by omega)⟩
 simp only at h
 rw [Km,Km] at h
 rw [←h,←Km (n+m),←Km (n % 15+m % 15),←Nat.add_mod]
theorem QV:∀n m:Fin 15,gp n.val=gp m.val→n=m:=by decide +kernel
theorem dN {n m:Nat} (hn:n < 15) (hm:m < 15) (h:gp n=gp m):n=m:=by
 have:=QV ⟨n,hn⟩ ⟨m,hm⟩ h
 simpa using this
theorem QU:gp 0=1:=by decide
theorem ak (n:Nat):gp (n+1)=fm 2 (gp n):=by
 rw [Nat.add_comm,QX];rfl
def us (xs:List F):List D:=xs.map fun a=>D.int .u8 (a.val:Int)
theorem Sx (xs:List F):(us xs=[])=(xs=[]):=by cases xs<;>simp [us]
theorem cG (xs:List F):(us xs).length=xs.length:=by simp [us]
theorem Zj (xs:List F) (n:Nat):(us xs).drop n=us (xs.drop n):=by simp [us]
theorem Zh (xs:List F) (n:Nat):(us xs).take n=us (xs.take n):=by simp [us]
theorem P0 (xs ys:List F):us xs++us ys=us (xs++ys):=by simp [us]
theorem Zi (xs:List F) (y:F):us xs++[.int .u8 (y.val:Int)]=us (xs++[y]):=by simp [us]
theorem K5 (xs:List F):us xs++[.int .u8 0]=us (xs++[0]):=by simp [us]
theorem cF (xs:List F) (i:Nat) (y:F):(us xs).set i (.int .u8 (y.val:Int))=us (xs.set i y):=by simp [us,List.map_set]
theorem NG (n:Nat):List.replicate n (D.int .u8 0)=us (List.replicate n 0):=by simp [us]
theorem W8 (xs:List F):(us xs).isEmpty=xs.isEmpty:=by cases xs<;>rfl
theorem Zg (xs:List F):Cc 1 (us xs)=True:=by
 simp only [Cc,us,eq_iff_iff,iff_true];intro x hx;simp at hx;obtain⟨n,_,rfl⟩:=hx;rfl
theorem Vn {xs:List F} {i:Nat} {A:D→Prop}:Ag (us xs)[i]? A=(i < xs.length∧A (.int .u8 ((xs[i]?.getD 0).val:Int))):=by
 unfold us
 rw [List.getElem?_map]
 by_cases h:i < xs.length
 ·simp [h,Ag]
 ·have:xs[i]?=none:=List.getElem?_eq_none (by omega)
  simp [this,h,Ag]
theorem fD {xs ys:List F}:us xs=us ys↔xs=ys:=by
 constructor
 ·intro h
  unfold us at h
  refine List.map_inj_right (fun a b h=>?_) |>.1 h
  simp only [D.int.injEq,true_and] at h
  exact Fin.ext (by omega)
 ·rintro rfl;rfl
def iv (xs:List F):List Int:=xs.map fun a=>(a.val:Int)
theorem DI (xs:List F):(iv xs).length=xs.length:=by simp [iv]
theorem Tj (xs:List F) (i:Nat):(iv xs)[i]?.getD 0=((xs[i]?.getD 0).val:Int):=by
 unfold iv
 rw [List.getElem?_map]
 cases xs[i]?<;>rfl
theorem aa (xs:List F) (y:F):iv xs++[(y.val:Int)]=iv (xs++[y]):=by simp [iv]
theorem dI (xs ys:List F):iv xs++iv ys=iv (xs++ys):=by simp [iv]
theorem Tg (xs:List F) (i:Nat) (y:F):(iv xs).set i (y.val:Int)=iv (xs.set i y):=by simp [iv,List.map_set]
theorem dH {xs ys:List F}:iv xs=iv ys↔xs=ys:=by
 constructor
 ·intro h
  unfold iv at h
  refine List.map_inj_right (fun a b h=>?_) |>.1 h
  exact Fin.ext (by omega)
 ·rintro rfl;rfl
theorem DU (n:Nat):List.replicate n (0:Int)=iv (List.replicate n 0):=by simp [iv]
theorem YF (xs:List F):(iv xs).isEmpty=xs.isEmpty:=by cases xs<;>rfl
def Dq (M:List (List F)):List (Bool×List D):=M.map fun r=>(false,us r)
theorem VH {M}:(Dq M).length=M.length:=by simp [Dq]
theorem Sy {M:List (List F)} {r:List F}:Dq M++[(false,us r)]=Dq (M++[r]):=by simp [Dq]
theorem VG {M:List (List F)} {r:List F} {j:Nat}:(Dq M).set j (false,us r)=Dq (M.set j r):=by simp [Dq,List.map_set]
theorem QL {M:List (List F)} {j:Nat} {A:Bool×List D→Prop}:Ag (Dq M)[j]? A=(j < M.length∧A (false,us (M[j]?.getD []))):=by
 unfold Dq
 rw [List.getElem?_map]
 by_cases h:j < M.length
 ·simp [h,Ag]
 ·have:M[j]?=none:=List.getElem?_eq_none (by omega)
  simp [this,h,Ag]
theorem TY {ix:List Nat} {M:List (List F)} (h:∀j,j∈ix→j < M.length):Hc ix (Dq M)=(ix.map fun j=>M[j]?.getD []).map fun r=>.list false (us r):=by
 simp only [Hc,Dq,List.map_map]
 apply List.map_congr_left
 intro j hj
 have:=h j hj
 simp [this]
def D6 (M:List (List F)):List (Bool×List D):=M.map fun r=>(false,AY (iv r))
theorem V7 {M}:(D6 M).length=M.length:=by simp [D6]
theorem Tk {M:List (List F)} {r:List F}:D6 M++[(false,AY (iv r))]=D6 (M++[r]):=by simp [D6]
theorem V6 {M:List (List F)} {r:List F} {j:Nat}:(D6 M).set j (false,AY (iv r))=D6 (M.set j r):=by simp [D6,List.map_set]
theorem QM {M:List (List F)} {j:Nat} {A:Bool×List D→Prop}:Ag (D6 M)[j]? A=(j < M.length∧A (false,AY (iv (M[j]?.getD [])))):=by
 unfold D6
 rw [List.getElem?_map]
 by_cases h:j < M.length
 ·simp [h,Ag]
 ·have:M[j]?=none:=List.getElem?_eq_none (by omega)
  simp [this,h,Ag]
theorem TZ {ix:List Nat} {M:List (List F)} (h:∀j,j∈ix→j < M.length):Hc ix (D6 M)=(ix.map fun j=>M[j]?.getD []).map fun r=>.list false (AY (iv r)):=by
 simp only [Hc,D6,List.map_map]
 apply List.map_congr_left
 intro j hj
 have:=h j hj
 simp [this]
theorem fC:∀a b:F,A_ .xor .u8 (a.val:Int) (b.val:Int)=((fa a b).val:Int):=by decide +kernel
theorem d5:∀a b:F,A_ .xor .i64 (a.val:Int) (b.val:Int)=((fa a b).val:Int):=by decide +kernel
theorem aX:∀a:F,[D.int .i64 0,.int .i64 0,.int .i64 1,.int .i64 4,.int .i64 2,.int .i64 8,.int .i64 5,.int .i64 10,.int .i64 3,.int .i64 14,.int .i64 9,.int .i64 7,.int .i64 6,.int .i64 13,.int .i64 11,.int .i64 12][a.val]?=some (.int .i64 (lg a:Nat)):=by
 intro a
 have h:∀a:F,[0,0,1,4,2,8,5,10,3,14,9,7,6,13,11,12][a.val]?=some (lg a):=by decide +kernel
 have:=h a
 have e:[D.int .i64 0,.int .i64 0,.int .i64 1,.int .i64 4,.int .i64 2,.int .i64 8,.int .i64 5,.int .i64 10,.int .i64 3,.int .i64 14,.int .i64 9,.int .i64 7,.int .i64 6,.int .i64 13,.int .i64 11,.int .i64 12]=[0,0,1,4,2,8,5,10,3,14,9,7,6,13,11,12].map fun n:Nat=>D.int .i64 (n:Int):=rfl
 rw [e,List.getElem?_map,this];rfl
theorem Um (n:Nat):[D.int .u8 1,.int .u8 2,.int .u8 4,.int .u8 8,.int .u8 3,.int .u8 6,.int .u8 12,.int .u8 11,.int .u8 5,.int .u8 10,.int .u8 7,.int .u8 14,.int .u8 15,.int .u8 13,.int .u8 9][n % 15]?=some (.int .u8 ((gp n).val:Int)):=by
 have e:[D.int .u8 1,.int .u8 2,.int .u8 4,.int .u8 8,.int .u8 3,.int .u8 6,.int .u8 12,.int .u8 11,.int .u8 5,.int .u8 10,.int .u8 7,.int .u8 14,.int .u8 15,.int .u8 13,.int .u8 9]=fI.map fun a:F=>D.int .u8 (a.val:Int):=rfl
 have hl:n % 15 < fI.length:=Nat.mod_lt _ (by decide)
 rw [e,List.getElem?_map,List.getElem?_eq_getElem hl]
 simp [gp,hl]
theorem W7 (a:F):((a.val:Int)=0)=(a=0):=by
 simp only [eq_iff_iff]
 constructor
 ·intro h;exact Fin.ext (by
   have:a.val=0:=by omega
   simpa using this)
 ·rintro rfl;rfl
theorem Pz (a:F):(0:Int)≤(a.val:Int)∧(a.val:Int)≤15:=by have:=a.isLt;omega
attribute [go_sem] Sx cG Zj Zh P0 Zi K5 cF NG W8 Zg Vn DI Tj aa dI Tg YF VH Sy VG QL V7 Tk V6 QM fC d5 aX W7
end Go.Pw

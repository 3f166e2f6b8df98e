/- A part of the proof. -/
import Derived.Test.YtpcpcjbbdgmohaaDoorPwInt
set_option linter.all false
namespace Go.Pw
set_option maxRecDepth 100000
abbrev F:=Fin 16
def fw:List F:=[1,2,4,8,3,6,12,11,5,10,7,14,15,13,9]
def gd:List Nat:=[0,0,1,4,2,8,5,10,3,14,9,7,6,13,11,12]
def gp (n:Nat):F:=fw[n%15]?.getD 0
def lg (a:F):Nat:=gd[a.val]?.getD 0
def fa (a b:F):F:=a ^^^ b
def fm (a b:F):F:=if a=0\/b=0 then 0 else gp (lg a+lg b)
def fi (a:F):F:=gp (15-lg a)
theorem Lh:∀a b:F,fa a b=fa b a:=by decide +kernel
theorem D0:∀a b c:F,fa (fa a b) c=fa a (fa b c):=by decide +kernel
theorem Cy:∀a:F,fa a 0=a:=by decide +kernel
theorem H3:∀a:F,fa 0 a=a:=by decide +kernel
theorem FK:∀a:F,fa a a=0:=by decide +kernel
theorem Df:∀a b:F,fm a b=fm b a:=by decide +kernel
theorem FJ:∀a b c:F,fm (fm a b) c=fm a (fm b c):=by decide +kernel
theorem KQ:∀a b c:F,fm a (fa b c)=fa (fm a b) (fm a c):=by decide +kernel
theorem II:∀a:F,fm a 1=a:=by decide +kernel
theorem QV:∀a:F,fm 1 a=a:=by decide +kernel
theorem De:∀a:F,fm a 0=0:=by decide +kernel
theorem CP:∀a:F,fm 0 a=0:=by decide +kernel
theorem cZ:∀a:F,a≠0->fm a (fi a)=1:=by decide +kernel
theorem Gc:∀a b:F,fa a b=0->a=b:=by decide +kernel
theorem N_:∀a b:F,fm a b=0->a=0\/b=0:=by decide +kernel
theorem fL:∀a:F,fi a≠0:=by decide +kernel
theorem YT:∀a:F,lg a<15:=by decide +kernel
theorem N5 (n:Nat):gp (n%15)=gp n:=by unfold gp;rw[Nat.mod_mod]
theorem SF:∀n:Fin 15,gp n.val≠0:=by decide +kernel
theorem gK (n:Nat):gp n≠0:=by rw[←N5];exact SF ⟨n%15,Nat.mod_lt _ (by omega)⟩
theorem Qc:∀n m:Fin 15,gp (n.val+m.val)=fm (gp n.val) (gp m.val):=by decide +kernel
theorem Tu (n m:Nat):gp (n+m)=fm (gp n) (gp m):=by
 have h:=Qc ⟨n%15,Nat.mod_lt _ (by omega)⟩ ⟨m%15,Nat.mod_lt _ (by omega)⟩
 simp only at h
 rw[N5,N5] at h
 rw[←h,←N5 (n+m),←N5 (n%15+m%15),←Nat.add_mod]
theorem Qb:∀n m:Fin 15,gp n.val=gp m.val->n=m:=by decide +kernel
theorem d6 {n m:Nat}(hn:n<15) (hm:m<15) (h:gp n=gp m):n=m:=by
 have:=Qb ⟨n,hn⟩ ⟨m,hm⟩ h
 simpa using this
theorem U1:gp 0=1:=by decide
def us (xs:List F):List D:=xs.map fun a=>D.int .u8 (a.val:Int)
theorem S1 (xs:List F):(us xs=[])=(xs=[]):=by cases xs<;>simp[us]
theorem cx (xs:List F):(us xs).length=xs.length:=by simp[us]
theorem Zs (xs:List F) (n:Nat):(us xs).drop n=us (xs.drop n):=by simp[us]
theorem Zq (xs:List F) (n:Nat):(us xs).take n=us (xs.take n):=by simp[us]
theorem S2 (xs ys:List F):us xs++us ys=us (xs++ys):=by simp[us]
theorem Zr (xs:List F) (y:F):us xs++[.int .u8 (y.val:Int)]=us (xs++[y]):=by simp[us]
theorem Nd (xs:List F):us xs++[.int .u8 0]=us (xs++[0]):=by simp[us]
theorem cw (xs:List F) (i:Nat) (y:F):(us xs).set i (.int .u8 (y.val:Int))=us (xs.set i y):=by simp[us,List.map_set]
theorem QB (n:Nat):List.replicate n (D.int .u8 0)=us (List.replicate n 0):=by simp[us]
theorem W_ (xs:List F):(us xs).isEmpty=xs.isEmpty:=by cases xs<;>rfl
theorem Zp (xs:List F):Cn 1 (us xs)=True:=by
 simp only[Cn,us,eq_iff_iff,iff_true];intro x hx;simp at hx;obtain⟨n,_,rfl⟩:=hx;rfl
theorem Vo {xs:List F}{i:Nat}{A:D->Prop}:Aq (us xs)[i]? A=(i<xs.length/\A (.int .u8 ((xs[i]?.getD 0).val:Int))):=by
 unfold us
 rw[List.getElem?_map]
 by_cases h:i<xs.length
 ·simp[h,Aq]
 ·have:xs[i]?=none:=List.getElem?_eq_none (by omega)
  simp[this,h,Aq]
theorem fj {xs ys:List F}:us xs=us ys↔xs=ys:=by
 constructor
 ·intro h
  unfold us at h
  refine List.map_inj_right (fun a b h=>?_) |>.1 h
  simp only[D.int.injEq,true_and] at h
  exact Fin.ext (by omega)
 ·rintro rfl;rfl
def iv (xs:List F):List Int:=xs.map fun a=>(a.val:Int)
theorem Kt (xs:List F):(iv xs).length=xs.length:=by simp[iv]
theorem dv (xs:List F) (i:Nat):(iv xs)[i]?.getD 0=((xs[i]?.getD 0).val:Int):=by
 unfold iv
 rw[List.getElem?_map]
 cases xs[i]?<;>rfl
theorem bI (xs:List F) (y:F):iv xs++[(y.val:Int)]=iv (xs++[y]):=by simp[iv]
theorem du {xs ys:List F}:iv xs=iv ys↔xs=ys:=by
 constructor
 ·intro h
  unfold iv at h
  refine List.map_inj_right (fun a b h=>?_) |>.1 h
  exact Fin.ext (by omega)
 ·rintro rfl;rfl
theorem YV (xs:List F):(iv xs).isEmpty=xs.isEmpty:=by cases xs<;>rfl
def EB (M:List (List F)):List (Bool×List D):=M.map fun r=>(false,us r)
theorem VI {M}:(EB M).length=M.length:=by simp[EB]
theorem S3 {M:List (List F)}{r:List F}:EB M++[(false,us r)]=EB (M++[r]):=by simp[EB]
theorem VH {M:List (List F)}{r:List F}{j:Nat}:(EB M).set j (false,us r)=EB (M.set j r):=by simp[EB,List.map_set]
theorem QW {M:List (List F)}{j:Nat}{A:Bool×List D->Prop}:Aq (EB M)[j]? A=(j<M.length/\A (false,us (M[j]?.getD []))):=by
 unfold EB
 rw[List.getElem?_map]
 by_cases h:j<M.length
 ·simp[h,Aq]
 ·have:M[j]?=none:=List.getElem?_eq_none (by omega)
  simp[this,h,Aq]
theorem Tf {ix:List Nat}{M:List (List F)}(h:∀j,j∈ix->j<M.length):I5 ix (EB M)=(ix.map fun j=>M[j]?.getD []).map fun r=>.list false (us r):=by
 simp only[I5,EB,List.map_map]
 apply List.map_congr_left
 intro j hj
 have:=h j hj
 simp[this]
def gI (M:List (List F)):List (Bool×List D):=M.map fun r=>(false,A4 (iv r))
theorem fh:∀a b:F,BM .xor .u8 (a.val:Int) (b.val:Int)=((fa a b).val:Int):=by decide +kernel
theorem bA:∀a:F,[D.int .i64 0,.int .i64 0,.int .i64 1,.int .i64 4,.int .i64 2,.int .i64 8,.int .i64 5,.int .i64 10,.int .i64 3,.int .i64 14,.int .i64 9,.int .i64 7,.int .i64 6,.int .i64 13,.int .i64 11,.int .i64 12][a.val]?=some (.int .i64 (lg a:Nat)):=by
 intro a
 have h:∀a:F,[0,0,1,4,2,8,5,10,3,14,9,7,6,13,11,12][a.val]?=some (lg a):=by decide +kernel
 have:=h a
 have e:[D.int .i64 0,.int .i64 0,.int .i64 1,.int .i64 4,.int .i64 2,.int .i64 8,.int .i64 5,.int .i64 10,.int .i64 3,.int .i64 14,.int .i64 9,.int .i64 7,.int .i64 6,.int .i64 13,.int .i64 11,.int .i64 12]=[0,0,1,4,2,8,5,10,3,14,9,7,6,13,11,12].map fun n:Nat=>D.int .i64 (n:Int):=rfl
 rw[e,List.getElem?_map,this];rfl
theorem Uo (n:Nat):[D.int .u8 1,.int .u8 2,.int .u8 4,.int .u8 8,.int .u8 3,.int .u8 6,.int .u8 12,.int .u8 11,.int .u8 5,.int .u8 10,.int .u8 7,.int .u8 14,.int .u8 15,.int .u8 13,.int .u8 9][n%15]?=some (.int .u8 ((gp n).val:Int)):=by
 have e:[D.int .u8 1,.int .u8 2,.int .u8 4,.int .u8 8,.int .u8 3,.int .u8 6,.int .u8 12,.int .u8 11,.int .u8 5,.int .u8 10,.int .u8 7,.int .u8 14,.int .u8 15,.int .u8 13,.int .u8 9]=fw.map fun a:F=>D.int .u8 (a.val:Int):=rfl
 have hl:n%15<fw.length:=Nat.mod_lt _ (by decide)
 rw[e,List.getElem?_map,List.getElem?_eq_getElem hl]
 simp[gp,hl]
theorem W9 (a:F):((a.val:Int)=0)=(a=0):=by
 simp only[eq_iff_iff]
 constructor
 ·intro h;exact Fin.ext (by
   have:a.val=0:=by omega
   simpa using this)
 ·rintro rfl;rfl
theorem QA (a:F):(0:Int)<=(a.val:Int)/\(a.val:Int)<=15:=by have:=a.isLt;omega
attribute [go_sem] S1 cx Zs Zq S2 Zr Nd cw QB W_ Zp Vo Kt dv bI YV VI S3 VH QW fh bA W9
end Go.Pw

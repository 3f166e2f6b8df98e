/- A part of the proof. -/
import Derived.Test.YtmdklgapccickaaGreatDoorPwInt
set_option linter.all false
namespace Go.Pw
set_option maxRecDepth 100000
abbrev F:=Fin 16
def qx:List F:=[1,2,4,8,3,6,12,11,5,10,7,14,15,13,9]
def sq:List Nat:=[0,0,1,4,2,8,5,10,3,14,9,7,6,13,11,12]
def gp (n:Nat):F:=qx[n%15]?.getD 0
def lg (a:F):Nat:=sq[a.val]?.getD 0
def fa (a b:F):F:=a ^^^ b
def fm (a b:F):F:=if a=0\/b=0 then 0 else gp (lg a+lg b)
def fi (a:F):F:=gp (15-lg a)
theorem kS:∀a b:F,fm a b=fm b a:=by decide +kernel
theorem kR:∀a:F,fm a 0=0:=by decide +kernel
theorem iP:∀a:F,fm 0 a=0:=by decide +kernel
theorem lc:∀a:F,lg a<15:=by decide +kernel
def us (xs:List F):List D:=xs.map fun a=>D.int .u8 (a.val:Int)
theorem XV (xs:List F):(us xs=[])=(xs=[]):=by cases xs<;>simp[us]
theorem mD (xs:List F):(us xs).length=xs.length:=by simp[us]
theorem iX (xs:List F) (n:Nat):(us xs).drop n=us (xs.drop n):=by simp[us]
theorem iV (xs:List F) (n:Nat):(us xs).take n=us (xs.take n):=by simp[us]
theorem XW (xs ys:List F):us xs++us ys=us (xs++ys):=by simp[us]
theorem iW (xs:List F) (y:F):us xs++[.int .u8 (y.val:Int)]=us (xs++[y]):=by simp[us]
theorem RY (xs:List F):us xs++[.int .u8 0]=us (xs++[0]):=by simp[us]
theorem mC (xs:List F) (i:Nat) (y:F):(us xs).set i (.int .u8 (y.val:Int))=us (xs.set i y):=by simp[us,List.map_set]
theorem UQ (n:Nat):List.replicate n (D.int .u8 0)=us (List.replicate n 0):=by simp[us]
theorem dx (xs:List F):(us xs).isEmpty=xs.isEmpty:=by cases xs<;>rfl
theorem iU (xs:List F):C0 1 (us xs)=True:=by
 simp only[C0,us,eq_iff_iff,iff_true];intro x hx;simp at hx;obtain⟨n,_,rfl⟩:=hx;rfl
theorem bE {xs:List F}{i:Nat}{A:D->Prop}:BW (us xs)[i]? A=(i<xs.length/\A (.int .u8 ((xs[i]?.getD 0).val:Int))):=by
 unfold us
 rw[List.getElem?_map]
 by_cases h:i<xs.length
 ·simp[h,BW]
 ·have:xs[i]?=none:=List.getElem?_eq_none (by omega)
  simp[this,h,BW]
def iv (xs:List F):List Int:=xs.map fun a=>(a.val:Int)
theorem YT (xs:List F):(iv xs).length=xs.length:=by simp[iv]
theorem ne (xs:List F) (i:Nat):(iv xs)[i]?.getD 0=((xs[i]?.getD 0).val:Int):=by
 unfold iv
 rw[List.getElem?_map]
 cases xs[i]?<;>rfl
theorem j_ (xs:List F) (y:F):iv xs++[(y.val:Int)]=iv (xs++[y]):=by simp[iv]
def re (M:List (List F)):List (Bool×List D):=M.map fun r=>(false,us r)
def r0 (M:List (List F)):List (Bool×List D):=M.map fun r=>(false,BU (iv r))
theorem qd:∀a b:F,A0 .xor .u8 (a.val:Int) (b.val:Int)=((fa a b).val:Int):=by decide +kernel
theorem j5:∀a:F,[D.int .i64 0,.int .i64 0,.int .i64 1,.int .i64 4,.int .i64 2,.int .i64 8,.int .i64 5,.int .i64 10,.int .i64 3,.int .i64 14,.int .i64 9,.int .i64 7,.int .i64 6,.int .i64 13,.int .i64 11,.int .i64 12][a.val]?=some (.int .i64 (lg a:Nat)):=by
 intro a
 have h:∀a:F,[0,0,1,4,2,8,5,10,3,14,9,7,6,13,11,12][a.val]?=some (lg a):=by decide +kernel
 have:=h a
 have e:[D.int .i64 0,.int .i64 0,.int .i64 1,.int .i64 4,.int .i64 2,.int .i64 8,.int .i64 5,.int .i64 10,.int .i64 3,.int .i64 14,.int .i64 9,.int .i64 7,.int .i64 6,.int .i64 13,.int .i64 11,.int .i64 12]=[0,0,1,4,2,8,5,10,3,14,9,7,6,13,11,12].map fun n:Nat=>D.int .i64 (n:Int):=rfl
 rw[e,List.getElem?_map,this];rfl
theorem jQ (n:Nat):[D.int .u8 1,.int .u8 2,.int .u8 4,.int .u8 8,.int .u8 3,.int .u8 6,.int .u8 12,.int .u8 11,.int .u8 5,.int .u8 10,.int .u8 7,.int .u8 14,.int .u8 15,.int .u8 13,.int .u8 9][n%15]?=some (.int .u8 ((gp n).val:Int)):=by
 have e:[D.int .u8 1,.int .u8 2,.int .u8 4,.int .u8 8,.int .u8 3,.int .u8 6,.int .u8 12,.int .u8 11,.int .u8 5,.int .u8 10,.int .u8 7,.int .u8 14,.int .u8 15,.int .u8 13,.int .u8 9]=qx.map fun a:F=>D.int .u8 (a.val:Int):=rfl
 have hl:n%15<qx.length:=Nat.mod_lt _ (by decide)
 rw[e,List.getElem?_map,List.getElem?_eq_getElem hl]
 simp[gp,hl]
theorem dv (a:F):((a.val:Int)=0)=(a=0):=by
 simp only[eq_iff_iff]
 constructor
 ·intro h;exact Fin.ext (by
   have:a.val=0:=by omega
   simpa using this)
 ·rintro rfl;rfl
theorem dw (a:F):(0:Int)<=(a.val:Int)/\(a.val:Int)<=15:=by have:=a.isLt;omega
attribute [go_sem] XV mD iX iV XW iW RY mC UQ dx iU bE YT ne j_ qd j5 dv
end Go.Pw

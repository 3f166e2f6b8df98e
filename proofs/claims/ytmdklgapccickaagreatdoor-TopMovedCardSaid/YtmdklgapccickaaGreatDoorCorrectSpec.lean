/- Part. -/
import Derived.Test.YtmdklgapccickaaGreatDoorPwInt
set_option linter.all false
open List renaming getElem?_map->aa,map_set->ax,replicate->ay,getElem?_eq_none->az
namespace Go.Pw
set_option maxRecDepth 100000
abbrev F:=Fin 16
def pwL:List F:=[1,2,4,8,3,6,12,11,5,10,7,14,15,13,9]
def lgL:List Nat:=[0,0,1,4,2,8,5,10,3,14,9,7,6,13,11,12]
def gp(n:Nat):F:=pwL[n%15]?.getD 0
def lg(a:F):Nat:=lgL[a.val]?.getD 0
def fa(a b:F):F:=a ^^^ b
def fm(a b:F):F:=if a=0\/b=0 then 0 else gp (lg a+lg b)
def fi(a:F):F:=gp (15-lg a)
theorem RJ:∀a b:F,fa a b=fa b a:=by decide +kernel
theorem E4:∀a b c:F,fa (fa a b) c=fa a (fa b c):=by decide +kernel
theorem Dc:∀a:F,fa a 0=a:=by decide +kernel
theorem LX:∀a:F,fa 0 a=a:=by decide +kernel
theorem Gx:∀a:F,fa a a=0:=by decide +kernel
theorem EU:∀a b:F,fm a b=fm b a:=by decide +kernel
theorem Gw:∀a b c:F,fm (fm a b) c=fm a (fm b c):=by decide +kernel
theorem PM:∀a b c:F,fm a (fa b c)=fa (fm a b) (fm a c):=by decide +kernel
theorem Lq:∀a:F,fm a 1=a:=by decide +kernel
theorem Y3:∀a:F,fm 1 a=a:=by decide +kernel
theorem Eu:∀a:F,fm a 0=0:=by decide +kernel
theorem DM:∀a:F,fm 0 a=0:=by decide +kernel
theorem xU:∀a:F,a≠0->fm a (fi a)=1:=by decide +kernel
theorem JA:∀a b:F,fa a b=0->a=b:=by decide +kernel
theorem Vj:∀a b:F,fm a b=0->a=0\/b=0:=by decide +kernel
theorem AA6:∀a:F,fi a≠0:=by decide +kernel
theorem pc:∀a:F,lg a<15:=by decide +kernel
theorem ZB(n:Nat):gp (n%15)=gp n:=by unfold gp;rw[Nat.mod_mod]
theorem ZD:∀n m:Fin 15,gp (n.val+m.val)=fm (gp n.val) (gp m.val):=by decide +kernel
theorem fk(n m:Nat):gp (n+m)=fm (gp n) (gp m):=by
 have h:=ZD ⟨n%15,Nat.mod_lt _ (by omega)⟩ ⟨m%15,Nat.mod_lt _ (by omega)⟩;simp only at h;rw[ZB,ZB]at h;rw[←h,←ZB (n+m),←ZB (n%15+m%15),←Nat.add_mod]
theorem ZC:∀n m:Fin 15,gp n.val=gp m.val->n=m:=by decide +kernel
theorem zG{n m:Nat}(hn:n<15)(hm:m<15)(h:gp n=gp m):n=m:=by
 have:=ZC ⟨n,hn⟩ ⟨m,hm⟩ h;simpa using this
theorem iq:gp 0=1:=by decide
def us(xs:List F):List D:=xs.map fun a=>D.int .u8 (a.val:Int)
theorem d9(xs:List F):(us xs=[])=(xs=[]):=by cases xs<;>simp[us]
theorem xj(xs:List F):(us xs).length=xs.length:=by simp[us]
theorem sO(xs:List F)(n:Nat):(us xs).drop n=us (xs.drop n):=by simp[us]
theorem sM(xs:List F)(n:Nat):(us xs).take n=us (xs.take n):=by simp[us]
theorem d_(xs ys:List F):us xs++us ys=us (xs++ys):=by simp[us]
theorem sN(xs:List F)(y:F):us xs++[.int .u8 (y.val:Int)]=us (xs++[y]):=by simp[us]
theorem U1(xs:List F):us xs++[.int .u8 0]=us (xs++[0]):=by simp[us]
theorem xi(xs:List F)(i:Nat)(y:F):(us xs).set i (.int .u8 (y.val:Int))=us (xs.set i y):=by simp[us,ax]
theorem YT(n:Nat):ay n (D.int .u8 0)=us (ay n 0):=by simp[us]
theorem m9(xs:List F):(us xs).isEmpty=xs.isEmpty:=by cases xs<;>rfl
theorem sL(xs:List F):Cc 1 (us xs)=True:=by
 simp only[Cc,us,eq_iff_iff,iff_true];intro x hx;simp at hx;obtain⟨n,_,rfl⟩:=hx;rfl
theorem kT{xs:List F}{i:Nat}{A:D->Prop}:Au (us xs)[i]? A=(i<xs.length/\A (.int .u8 ((xs[i]?.getD 0).val:Int))):=by
 unfold us;rw[aa]
 by_cases h:i<xs.length
 ·simp[h,Au]
 ·have:xs[i]?=none:=az (by omega);simp[this,h,Au]
def iv(xs:List F):List Int:=xs.map fun a=>(a.val:Int)
theorem Lm(xs:List F):(iv xs).length=xs.length:=by simp[iv]
theorem pf(xs:List F)(i:Nat):(iv xs)[i]?.getD 0=((xs[i]?.getD 0).val:Int):=by
 unfold iv;rw[aa]
 cases xs[i]?<;>rfl
theorem ug(xs:List F)(y:F):iv xs++[(y.val:Int)]=iv (xs++[y]):=by simp[iv]
theorem ph(xs:List F):(iv xs).isEmpty=xs.isEmpty:=by cases xs<;>rfl
def EN(M:List (List F)):List (Bool×List D):=M.map fun r=>(false,us r)
theorem jY{M}:(EN M).length=M.length:=by simp[EN]
theorem eA{M:List (List F)}{r:List F}:EN M++[(false,us r)]=EN (M++[r]):=by simp[EN]
theorem jX{M:List (List F)}{r:List F}{j:Nat}:(EN M).set j (false,us r)=EN (M.set j r):=by simp[EN,ax]
theorem Y4{M:List (List F)}{j:Nat}{A:Bool×List D->Prop}:Au (EN M)[j]? A=(j<M.length/\A (false,us (M[j]?.getD []))):=by
 unfold EN;rw[aa]
 by_cases h:j<M.length
 ·simp[h,Au]
 ·have:M[j]?=none:=az (by omega);simp[this,h,Au]
theorem fQ{ix:List Nat}{M:List (List F)}(h:∀j,j∈ix->j<M.length):Mw ix (EN M)=(ix.map fun j=>M[j]?.getD []).map fun r=>.list false (us r):=by
 simp only[Mw,EN,List.map_map];apply List.map_congr_left;intro j e;have:=h j e;simp[this]
theorem ABZ:∀a b:F,Ah .xor .u8 (a.val:Int) (b.val:Int)=((fa a b).val:Int):=by decide +kernel
theorem uY:∀a:F,[D.int .i64 0,.int .i64 0,.int .i64 1,.int .i64 4,.int .i64 2,.int .i64 8,.int .i64 5,.int .i64 10,.int .i64 3,.int .i64 14,.int .i64 9,.int .i64 7,.int .i64 6,.int .i64 13,.int .i64 11,.int .i64 12][a.val]?=some (.int .i64 (lg a:Nat)):=by
 intro a;have h:∀a:F,[0,0,1,4,2,8,5,10,3,14,9,7,6,13,11,12][a.val]?=some (lg a):=by decide +kernel
 have:=h a;have e:[D.int .i64 0,.int .i64 0,.int .i64 1,.int .i64 4,.int .i64 2,.int .i64 8,.int .i64 5,.int .i64 10,.int .i64 3,.int .i64 14,.int .i64 9,.int .i64 7,.int .i64 6,.int .i64 13,.int .i64 11,.int .i64 12]=[0,0,1,4,2,8,5,10,3,14,9,7,6,13,11,12].map fun n:Nat=>D.int .i64 (n:Int):=rfl
 rw[e,aa,this];rfl
theorem tV(n:Nat):[D.int .u8 1,.int .u8 2,.int .u8 4,.int .u8 8,.int .u8 3,.int .u8 6,.int .u8 12,.int .u8 11,.int .u8 5,.int .u8 10,.int .u8 7,.int .u8 14,.int .u8 15,.int .u8 13,.int .u8 9][n%15]?=some (.int .u8 ((gp n).val:Int)):=by
 have e:[D.int .u8 1,.int .u8 2,.int .u8 4,.int .u8 8,.int .u8 3,.int .u8 6,.int .u8 12,.int .u8 11,.int .u8 5,.int .u8 10,.int .u8 7,.int .u8 14,.int .u8 15,.int .u8 13,.int .u8 9]=pwL.map fun a:F=>D.int .u8 (a.val:Int):=rfl
 have hl:n%15<pwL.length:=Nat.mod_lt _ (by decide);rw[e,aa,List.getElem?_eq_getElem hl];simp[gp,hl]
theorem m8(a:F):((a.val:Int)=0)=(a=0):=by
 simp only[eq_iff_iff];constructor
 ·intro h;exact Fin.ext (by
   have:a.val=0:=by omega
   simpa using this)
 ·rintro rfl;rfl
theorem YS(a:F):(0:Int)<=(a.val:Int)/\(a.val:Int)<=15:=by have:=a.isLt;omega
attribute [go_sem] d9 xj sO sM d_ sN U1 xi YT m9 sL kT Lm pf ug ph jY eA jX Y4 ABZ uY m8
end Go.Pw

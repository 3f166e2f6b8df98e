/- A part of the proof. -/
import Derived.Test.YtibkjeolahobbaaGreatDoorPwInt
set_option linter.all false
namespace Go.Pw
set_option maxRecDepth 100000
abbrev F:=Fin 16
def rv:List F:=[1,2,4,8,3,6,12,11,5,10,7,14,15,13,9]
def sn:List Nat:=[0,0,1,4,2,8,5,10,3,14,9,7,6,13,11,12]
def gp (n:Nat):F:=rv[n%15]?.getD 0
def lg (a:F):Nat:=sn[a.val]?.getD 0
def fa (a b:F):F:=a ^^^ b
def fm (a b:F):F:=if a=0\/b=0 then 0 else gp (lg a+lg b)
def fi (a:F):F:=gp (15-lg a)
theorem Nf:∀a b:F,fa a b=fa b a:=by decide +kernel
theorem DV:∀a b c:F,fa (fa a b) c=fa a (fa b c):=by decide +kernel
theorem CM:∀a:F,fa a 0=a:=by decide +kernel
theorem HQ:∀a:F,fa 0 a=a:=by decide +kernel
theorem FA:∀a:F,fa a a=0:=by decide +kernel
theorem Ck:∀a b:F,fm a b=fm b a:=by decide +kernel
theorem E':∀a b c:F,fm (fm a b) c=fm a (fm b c):=by decide +kernel
theorem L8:∀a b c:F,fm a (fa b c)=fa (fm a b) (fm a c):=by decide +kernel
theorem JF:∀a:F,fm a 1=a:=by decide +kernel
theorem UF:∀a:F,fm 1 a=a:=by decide +kernel
theorem C0:∀a:F,fm a 0=0:=by decide +kernel
theorem B2:∀a:F,fm 0 a=0:=by decide +kernel
theorem nU:∀a:F,a≠0->fm a (fi a)=1:=by decide +kernel
theorem Gz:∀a b:F,fa a b=0->a=b:=by decide +kernel
theorem Rb:∀a b:F,fm a b=0->a=0\/b=0:=by decide +kernel
theorem q9:∀a:F,fi a≠0:=by decide +kernel
theorem fc:∀a:F,lg a<15:=by decide +kernel
theorem Md (n:Nat):gp (n%15)=gp n:=by unfold gp;rw[Nat.mod_mod]
theorem WQ:∀n:Fin 15,gp n.val≠0:=by decide +kernel
theorem sQ (n:Nat):gp n≠0:=by rw[←Md];exact WQ ⟨n%15,Nat.mod_lt _ (by omega)⟩
theorem UT:∀n m:Fin 15,gp (n.val+m.val)=fm (gp n.val) (gp m.val):=by decide +kernel
theorem UU (n m:Nat):gp (n+m)=fm (gp n) (gp m):=by
 have h:=UT ⟨n%15,Nat.mod_lt _ (by omega)⟩ ⟨m%15,Nat.mod_lt _ (by omega)⟩
 simp only at h
 rw[Md,Md] at h
 rw[←h,←Md (n+m),←Md (n%15+m%15),←Nat.add_mod]
theorem US:∀n m:Fin 15,gp n.val=gp m.val->n=m:=by decide +kernel
theorem pm {n m:Nat}(hn:n<15) (hm:m<15) (h:gp n=gp m):n=m:=by
 have:=US ⟨n,hn⟩ ⟨m,hm⟩ h
 simpa using this
theorem UR:gp 0=1:=by decide
theorem lM (n:Nat):gp (n+1)=fm 2 (gp n):=by
 rw[Nat.add_comm,UU];rfl
def us (xs:List F):List D:=xs.map fun a=>D.int .u8 (a.val:Int)
theorem Xg (xs:List F):(us xs=[])=(xs=[]):=by cases xs<;>simp[us]
theorem oD (xs:List F):(us xs).length=xs.length:=by simp[us]
theorem jc (xs:List F) (n:Nat):(us xs).drop n=us (xs.drop n):=by simp[us]
theorem ja (xs:List F) (n:Nat):(us xs).take n=us (xs.take n):=by simp[us]
theorem Xh (xs ys:List F):us xs++us ys=us (xs++ys):=by simp[us]
theorem jb (xs:List F) (y:F):us xs++[.int .u8 (y.val:Int)]=us (xs++[y]):=by simp[us]
theorem Qi (xs:List F):us xs++[.int .u8 0]=us (xs++[0]):=by simp[us]
theorem oC (xs:List F) (i:Nat) (y:F):(us xs).set i (.int .u8 (y.val:Int))=us (xs.set i y):=by simp[us,List.map_set]
theorem Tq (n:Nat):List.replicate n (D.int .u8 0)=us (List.replicate n 0):=by simp[us]
theorem di (xs:List F):(us xs).isEmpty=xs.isEmpty:=by cases xs<;>rfl
theorem jZ (xs:List F):CJ 1 (us xs)=True:=by
 simp only[CJ,us,eq_iff_iff,iff_true];intro x hx;simp at hx;obtain⟨n,_,rfl⟩:=hx;rfl
theorem bG {xs:List F}{i:Nat}{A:D->Prop}:Av (us xs)[i]? A=(i<xs.length/\A (.int .u8 ((xs[i]?.getD 0).val:Int))):=by
 unfold us
 rw[List.getElem?_map]
 by_cases h:i<xs.length
 ·simp[h,Av]
 ·have:xs[i]?=none:=List.getElem?_eq_none (by omega)
  simp[this,h,Av]
def iv (xs:List F):List Int:=xs.map fun a=>(a.val:Int)
theorem Gx (xs:List F):(iv xs).length=xs.length:=by simp[iv]
theorem fo (xs:List F) (i:Nat):(iv xs)[i]?.getD 0=((xs[i]?.getD 0).val:Int):=by
 unfold iv
 rw[List.getElem?_map]
 cases xs[i]?<;>rfl
theorem lD (xs:List F) (y:F):iv xs++[(y.val:Int)]=iv (xs++[y]):=by simp[iv]
theorem pe (xs:List F) (i:Nat) (y:F):(iv xs).set i (y.val:Int)=iv (xs.set i y):=by simp[iv,List.map_set]
theorem pg {xs ys:List F}:iv xs=iv ys↔xs=ys:=by
 constructor
 ·intro h
  unfold iv at h
  refine List.map_inj_right (fun a b h=>?_) |>.1 h
  exact Fin.ext (by omega)
 ·rintro rfl;rfl
theorem UP (n:Nat):List.replicate n (0:Int)=iv (List.replicate n 0):=by simp[iv]
theorem fq (xs:List F):(iv xs).isEmpty=xs.isEmpty:=by cases xs<;>rfl
def Dl (M:List (List F)):List (Bool×List D):=M.map fun r=>(false,us r)
theorem aE {M}:(Dl M).length=M.length:=by simp[Dl]
theorem Xi {M:List (List F)}{r:List F}:Dl M++[(false,us r)]=Dl (M++[r]):=by simp[Dl]
theorem aD {M:List (List F)}{r:List F}{j:Nat}:(Dl M).set j (false,us r)=Dl (M.set j r):=by simp[Dl,List.map_set]
theorem UG {M:List (List F)}{j:Nat}{A:Bool×List D->Prop}:Av (Dl M)[j]? A=(j<M.length/\A (false,us (M[j]?.getD []))):=by
 unfold Dl
 rw[List.getElem?_map]
 by_cases h:j<M.length
 ·simp[h,Av]
 ·have:M[j]?=none:=List.getElem?_eq_none (by omega)
  simp[this,h,Av]
theorem YG {ix:List Nat}{M:List (List F)}(h:∀j,j∈ix->j<M.length):Gw ix (Dl M)=(ix.map fun j=>M[j]?.getD []).map fun r=>.list false (us r):=by
 simp only[Gw,Dl,List.map_map]
 apply List.map_congr_left
 intro j hj
 have:=h j hj
 simp[this]
def D4 (M:List (List F)):List (Bool×List D):=M.map fun r=>(false,Aa (iv r))
theorem ba {M}:(D4 M).length=M.length:=by simp[D4]
theorem YP {M:List (List F)}{r:List F}:D4 M++[(false,Aa (iv r))]=D4 (M++[r]):=by simp[D4]
theorem bZ {M:List (List F)}{r:List F}{j:Nat}:(D4 M).set j (false,Aa (iv r))=D4 (M.set j r):=by simp[D4,List.map_set]
theorem UH {M:List (List F)}{j:Nat}{A:Bool×List D->Prop}:Av (D4 M)[j]? A=(j<M.length/\A (false,Aa (iv (M[j]?.getD [])))):=by
 unfold D4
 rw[List.getElem?_map]
 by_cases h:j<M.length
 ·simp[h,Av]
 ·have:M[j]?=none:=List.getElem?_eq_none (by omega)
  simp[this,h,Av]
theorem YH {ix:List Nat}{M:List (List F)}(h:∀j,j∈ix->j<M.length):Gw ix (D4 M)=(ix.map fun j=>M[j]?.getD []).map fun r=>.list false (Aa (iv r)):=by
 simp only[Gw,D4,List.map_map]
 apply List.map_congr_left
 intro j hj
 have:=h j hj
 simp[this]
theorem rm:∀a b:F,Ai .xor .u8 (a.val:Int) (b.val:Int)=((fa a b).val:Int):=by decide +kernel
theorem qT:∀a b:F,Ai .xor .i64 (a.val:Int) (b.val:Int)=((fa a b).val:Int):=by decide +kernel
theorem ky:∀a:F,[D.int .i64 0,.int .i64 0,.int .i64 1,.int .i64 4,.int .i64 2,.int .i64 8,.int .i64 5,.int .i64 10,.int .i64 3,.int .i64 14,.int .i64 9,.int .i64 7,.int .i64 6,.int .i64 13,.int .i64 11,.int .i64 12][a.val]?=some (.int .i64 (lg a:Nat)):=by
 intro a
 have h:∀a:F,[0,0,1,4,2,8,5,10,3,14,9,7,6,13,11,12][a.val]?=some (lg a):=by decide +kernel
 have:=h a
 have e:[D.int .i64 0,.int .i64 0,.int .i64 1,.int .i64 4,.int .i64 2,.int .i64 8,.int .i64 5,.int .i64 10,.int .i64 3,.int .i64 14,.int .i64 9,.int .i64 7,.int .i64 6,.int .i64 13,.int .i64 11,.int .i64 12]=[0,0,1,4,2,8,5,10,3,14,9,7,6,13,11,12].map fun n:Nat=>D.int .i64 (n:Int):=rfl
 rw[e,List.getElem?_map,this];rfl
theorem Ze (n:Nat):[D.int .u8 1,.int .u8 2,.int .u8 4,.int .u8 8,.int .u8 3,.int .u8 6,.int .u8 12,.int .u8 11,.int .u8 5,.int .u8 10,.int .u8 7,.int .u8 14,.int .u8 15,.int .u8 13,.int .u8 9][n%15]?=some (.int .u8 ((gp n).val:Int)):=by
 have e:[D.int .u8 1,.int .u8 2,.int .u8 4,.int .u8 8,.int .u8 3,.int .u8 6,.int .u8 12,.int .u8 11,.int .u8 5,.int .u8 10,.int .u8 7,.int .u8 14,.int .u8 15,.int .u8 13,.int .u8 9]=rv.map fun a:F=>D.int .u8 (a.val:Int):=rfl
 have hl:n%15<rv.length:=Nat.mod_lt _ (by decide)
 rw[e,List.getElem?_map,List.getElem?_eq_getElem hl]
 simp[gp,hl]
theorem dh (a:F):((a.val:Int)=0)=(a=0):=by
 simp only[eq_iff_iff]
 constructor
 ·intro h;exact Fin.ext (by
   have:a.val=0:=by omega
   simpa using this)
 ·rintro rfl;rfl
theorem Qd (a:F):(0:Int)<=(a.val:Int)/\(a.val:Int)<=15:=by have:=a.isLt;omega
attribute [go_sem] Xg oD jc ja Xh jb Qi oC Tq di jZ bG Gx fo lD pe fq aE Xi aD UG ba YP bZ UH rm qT ky dh
end Go.Pw

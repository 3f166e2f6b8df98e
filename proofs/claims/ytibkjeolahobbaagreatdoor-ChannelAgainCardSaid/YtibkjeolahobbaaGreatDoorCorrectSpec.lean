/- A part of the proof. -/
import Derived.Test.YtibkjeolahobbaaGreatDoorPwInt
set_option linter.all false
namespace Go.Pw
set_option maxRecDepth 100000
abbrev F:=Fin 16
def nW:List F:=[1,2,4,8,3,6,12,11,5,10,7,14,15,13,9]
def om:List Nat:=[0,0,1,4,2,8,5,10,3,14,9,7,6,13,11,12]
def gp (n:Nat):F:=nW[n%15]?.getD 0
def lg (a:F):Nat:=om[a.val]?.getD 0
def fa (a b:F):F:=a ^^^ b
def fm (a b:F):F:=if a=0\/b=0 then 0 else gp (lg a+lg b)
def fi (a:F):F:=gp (15-lg a)
theorem NM:∀a b:F,fa a b=fa b a:=by decide +kernel
theorem D4:∀a b c:F,fa (fa a b) c=fa a (fa b c):=by decide +kernel
theorem C3:∀a:F,fa a 0=a:=by decide +kernel
theorem JC:∀a:F,fa 0 a=a:=by decide +kernel
theorem Fh:∀a:F,fa a a=0:=by decide +kernel
theorem Dk:∀a b:F,fm a b=fm b a:=by decide +kernel
theorem Fg:∀a b c:F,fm (fm a b) c=fm a (fm b c):=by decide +kernel
theorem Lz:∀a b c:F,fm a (fa b c)=fa (fm a b) (fm a c):=by decide +kernel
theorem JQ:∀a:F,fm a 1=a:=by decide +kernel
theorem S_:∀a:F,fm 1 a=a:=by decide +kernel
theorem Dj:∀a:F,fm a 0=0:=by decide +kernel
theorem CZ:∀a:F,fm 0 a=0:=by decide +kernel
theorem jj:∀a:F,a≠0->fm a (fi a)=1:=by decide +kernel
theorem HJ:∀a b:F,fa a b=0->a=b:=by decide +kernel
theorem Qa:∀a b:F,fm a b=0->a=0\/b=0:=by decide +kernel
theorem mn:∀a:F,fi a≠0:=by decide +kernel
theorem dL:∀a:F,lg a<15:=by decide +kernel
theorem QW (n:Nat):gp (n%15)=gp n:=by unfold gp;rw[Nat.mod_mod]
theorem U':∀n:Fin 15,gp n.val≠0:=by decide +kernel
theorem oK (n:Nat):gp n≠0:=by rw[←QW];exact U' ⟨n%15,Nat.mod_lt _ (by omega)⟩
theorem TF:∀n m:Fin 15,gp (n.val+m.val)=fm (gp n.val) (gp m.val):=by decide +kernel
theorem W4 (n m:Nat):gp (n+m)=fm (gp n) (gp m):=by
 have h:=TF ⟨n%15,Nat.mod_lt _ (by omega)⟩ ⟨m%15,Nat.mod_lt _ (by omega)⟩
 simp only at h
 rw[QW,QW] at h
 rw[←h,←QW (n+m),←QW (n%15+m%15),←Nat.add_mod]
theorem TE:∀n m:Fin 15,gp n.val=gp m.val->n=m:=by decide +kernel
theorem lL {n m:Nat}(hn:n<15) (hm:m<15) (h:gp n=gp m):n=m:=by
 have:=TE ⟨n,hn⟩ ⟨m,hm⟩ h
 simpa using this
theorem YO:gp 0=1:=by decide
def us (xs:List F):List D:=xs.map fun a=>D.int .u8 (a.val:Int)
theorem WA (xs:List F):(us xs=[])=(xs=[]):=by cases xs<;>simp[us]
theorem jz (xs:List F):(us xs).length=xs.length:=by simp[us]
theorem fZ (xs:List F) (n:Nat):(us xs).drop n=us (xs.drop n):=by simp[us]
theorem fX (xs:List F) (n:Nat):(us xs).take n=us (xs.take n):=by simp[us]
theorem WB (xs ys:List F):us xs++us ys=us (xs++ys):=by simp[us]
theorem fY (xs:List F) (y:F):us xs++[.int .u8 (y.val:Int)]=us (xs++[y]):=by simp[us]
theorem P0 (xs:List F):us xs++[.int .u8 0]=us (xs++[0]):=by simp[us]
theorem jy (xs:List F) (i:Nat) (y:F):(us xs).set i (.int .u8 (y.val:Int))=us (xs.set i y):=by simp[us,List.map_set]
theorem Sk (n:Nat):List.replicate n (D.int .u8 0)=us (List.replicate n 0):=by simp[us]
theorem a9 (xs:List F):(us xs).isEmpty=xs.isEmpty:=by cases xs<;>rfl
theorem fW (xs:List F):Cq 1 (us xs)=True:=by
 simp only[Cq,us,eq_iff_iff,iff_true];intro x hx;simp at hx;obtain⟨n,_,rfl⟩:=hx;rfl
theorem ZL {xs:List F}{i:Nat}{A:D->Prop}:BP (us xs)[i]? A=(i<xs.length/\A (.int .u8 ((xs[i]?.getD 0).val:Int))):=by
 unfold us
 rw[List.getElem?_map]
 by_cases h:i<xs.length
 ·simp[h,BP]
 ·have:xs[i]?=none:=List.getElem?_eq_none (by omega)
  simp[this,h,BP]
def iv (xs:List F):List Int:=xs.map fun a=>(a.val:Int)
theorem Kp (xs:List F):(iv xs).length=xs.length:=by simp[iv]
theorem dR (xs:List F) (i:Nat):(iv xs)[i]?.getD 0=((xs[i]?.getD 0).val:Int):=by
 unfold iv
 rw[List.getElem?_map]
 cases xs[i]?<;>rfl
theorem iM (xs:List F) (y:F):iv xs++[(y.val:Int)]=iv (xs++[y]):=by simp[iv]
theorem lE {xs ys:List F}:iv xs=iv ys↔xs=ys:=by
 constructor
 ·intro h
  unfold iv at h
  refine List.map_inj_right (fun a b h=>?_) |>.1 h
  exact Fin.ext (by omega)
 ·rintro rfl;rfl
theorem dS (xs:List F):(iv xs).isEmpty=xs.isEmpty:=by cases xs<;>rfl
def EO (M:List (List F)):List (Bool×List D):=M.map fun r=>(false,us r)
theorem Yd {M}:(EO M).length=M.length:=by simp[EO]
theorem WC {M:List (List F)}{r:List F}:EO M++[(false,us r)]=EO (M++[r]):=by simp[EO]
theorem Yc {M:List (List F)}{r:List F}{j:Nat}:(EO M).set j (false,us r)=EO (M.set j r):=by simp[EO,List.map_set]
theorem S' {M:List (List F)}{j:Nat}{A:Bool×List D->Prop}:BP (EO M)[j]? A=(j<M.length/\A (false,us (M[j]?.getD []))):=by
 unfold EO
 rw[List.getElem?_map]
 by_cases h:j<M.length
 ·simp[h,BP]
 ·have:M[j]?=none:=List.getElem?_eq_none (by omega)
  simp[this,h,BP]
theorem Wp {ix:List Nat}{M:List (List F)}(h:∀j,j∈ix->j<M.length):KB ix (EO M)=(ix.map fun j=>M[j]?.getD []).map fun r=>.list false (us r):=by
 simp only[KB,EO,List.map_map]
 apply List.map_congr_left
 intro j hj
 have:=h j hj
 simp[this]
def oI (M:List (List F)):List (Bool×List D):=M.map fun r=>(false,Aj (iv r))
theorem nO:∀a b:F,A5 .xor .u8 (a.val:Int) (b.val:Int)=((fa a b).val:Int):=by decide +kernel
theorem iC:∀a:F,[D.int .i64 0,.int .i64 0,.int .i64 1,.int .i64 4,.int .i64 2,.int .i64 8,.int .i64 5,.int .i64 10,.int .i64 3,.int .i64 14,.int .i64 9,.int .i64 7,.int .i64 6,.int .i64 13,.int .i64 11,.int .i64 12][a.val]?=some (.int .i64 (lg a:Nat)):=by
 intro a
 have h:∀a:F,[0,0,1,4,2,8,5,10,3,14,9,7,6,13,11,12][a.val]?=some (lg a):=by decide +kernel
 have:=h a
 have e:[D.int .i64 0,.int .i64 0,.int .i64 1,.int .i64 4,.int .i64 2,.int .i64 8,.int .i64 5,.int .i64 10,.int .i64 3,.int .i64 14,.int .i64 9,.int .i64 7,.int .i64 6,.int .i64 13,.int .i64 11,.int .i64 12]=[0,0,1,4,2,8,5,10,3,14,9,7,6,13,11,12].map fun n:Nat=>D.int .i64 (n:Int):=rfl
 rw[e,List.getElem?_map,this];rfl
theorem X_ (n:Nat):[D.int .u8 1,.int .u8 2,.int .u8 4,.int .u8 8,.int .u8 3,.int .u8 6,.int .u8 12,.int .u8 11,.int .u8 5,.int .u8 10,.int .u8 7,.int .u8 14,.int .u8 15,.int .u8 13,.int .u8 9][n%15]?=some (.int .u8 ((gp n).val:Int)):=by
 have e:[D.int .u8 1,.int .u8 2,.int .u8 4,.int .u8 8,.int .u8 3,.int .u8 6,.int .u8 12,.int .u8 11,.int .u8 5,.int .u8 10,.int .u8 7,.int .u8 14,.int .u8 15,.int .u8 13,.int .u8 9]=nW.map fun a:F=>D.int .u8 (a.val:Int):=rfl
 have hl:n%15<nW.length:=Nat.mod_lt _ (by decide)
 rw[e,List.getElem?_map,List.getElem?_eq_getElem hl]
 simp[gp,hl]
theorem a8 (a:F):((a.val:Int)=0)=(a=0):=by
 simp only[eq_iff_iff]
 constructor
 ·intro h;exact Fin.ext (by
   have:a.val=0:=by omega
   simpa using this)
 ·rintro rfl;rfl
theorem Si (a:F):(0:Int)<=(a.val:Int)/\(a.val:Int)<=15:=by have:=a.isLt;omega
attribute [go_sem] WA jz fZ fX WB fY P0 jy Sk a9 fW ZL Kp dR iM dS Yd WC Yc S' nO iC a8
end Go.Pw

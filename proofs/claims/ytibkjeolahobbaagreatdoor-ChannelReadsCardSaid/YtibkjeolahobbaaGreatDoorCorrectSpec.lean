/- A part of the proof. -/
import Derived.Test.YtibkjeolahobbaaGreatDoorPwInt
set_option linter.all false
namespace Go.Pw
set_option maxRecDepth 100000
abbrev F:=Fin 16
def q9:List F:=[1,2,4,8,3,6,12,11,5,10,7,14,15,13,9]
def r4:List Nat:=[0,0,1,4,2,8,5,10,3,14,9,7,6,13,11,12]
def gp (n:Nat):F:=q9[n%15]?.getD 0
def lg (a:F):Nat:=r4[a.val]?.getD 0
def fa (a b:F):F:=a ^^^ b
def fm (a b:F):F:=if a=0\/b=0 then 0 else gp (lg a+lg b)
def fi (a:F):F:=gp (15-lg a)
theorem Oh:∀a b:F,fa a b=fa b a:=by decide +kernel
theorem EJ:∀a b c:F,fa (fa a b) c=fa a (fa b c):=by decide +kernel
theorem C8:∀a:F,fa a 0=a:=by decide +kernel
theorem IA:∀a:F,fa 0 a=a:=by decide +kernel
theorem Fy:∀a:F,fa a a=0:=by decide +kernel
theorem DV:∀a b:F,fm a b=fm b a:=by decide +kernel
theorem Fx:∀a b c:F,fm (fm a b) c=fm a (fm b c):=by decide +kernel
theorem M7:∀a b c:F,fm a (fa b c)=fa (fm a b) (fm a c):=by decide +kernel
theorem J6:∀a:F,fm a 1=a:=by decide +kernel
theorem VP:∀a:F,fm 1 a=a:=by decide +kernel
theorem Dj:∀a:F,fm a 0=0:=by decide +kernel
theorem Cj:∀a:F,fm 0 a=0:=by decide +kernel
theorem nO:∀a:F,a≠0->fm a (fi a)=1:=by decide +kernel
theorem Hn:∀a b:F,fa a b=0->a=b:=by decide +kernel
theorem SZ:∀a b:F,fm a b=0->a=0\/b=0:=by decide +kernel
theorem qY:∀a:F,fi a≠0:=by decide +kernel
theorem gP:∀a:F,lg a<15:=by decide +kernel
theorem Nc (n:Nat):gp (n%15)=gp n:=by unfold gp;rw[Nat.mod_mod]
theorem Xd:∀n:Fin 15,gp n.val≠0:=by decide +kernel
theorem rd (n:Nat):gp n≠0:=by rw[←Nc];exact Xd ⟨n%15,Nat.mod_lt _ (by omega)⟩
theorem Vc:∀n m:Fin 15,gp (n.val+m.val)=fm (gp n.val) (gp m.val):=by decide +kernel
theorem Vd (n m:Nat):gp (n+m)=fm (gp n) (gp m):=by
 have h:=Vc ⟨n%15,Nat.mod_lt _ (by omega)⟩ ⟨m%15,Nat.mod_lt _ (by omega)⟩
 simp only at h
 rw[Nc,Nc] at h
 rw[←h,←Nc (n+m),←Nc (n%15+m%15),←Nat.add_mod]
theorem Vb:∀n m:Fin 15,gp n.val=gp m.val->n=m:=by decide +kernel
theorem pR {n m:Nat}(hn:n<15) (hm:m<15) (h:gp n=gp m):n=m:=by
 have:=Vb ⟨n,hn⟩ ⟨m,hm⟩ h
 simpa using this
theorem Va:gp 0=1:=by decide
theorem ld (n:Nat):gp (n+1)=fm 2 (gp n):=by
 rw[Nat.add_comm,Vd];rfl
def us (xs:List F):List D:=xs.map fun a=>D.int .u8 (a.val:Int)
theorem Yl (xs:List F):(us xs=[])=(xs=[]):=by cases xs<;>simp[us]
theorem nk (xs:List F):(us xs).length=xs.length:=by simp[us]
theorem jp (xs:List F) (n:Nat):(us xs).drop n=us (xs.drop n):=by simp[us]
theorem jn (xs:List F) (n:Nat):(us xs).take n=us (xs.take n):=by simp[us]
theorem Ym (xs ys:List F):us xs++us ys=us (xs++ys):=by simp[us]
theorem jo (xs:List F) (y:F):us xs++[.int .u8 (y.val:Int)]=us (xs++[y]):=by simp[us]
theorem Rm (xs:List F):us xs++[.int .u8 0]=us (xs++[0]):=by simp[us]
theorem nj (xs:List F) (i:Nat) (y:F):(us xs).set i (.int .u8 (y.val:Int))=us (xs.set i y):=by simp[us,List.map_set]
theorem Uz (n:Nat):List.replicate n (D.int .u8 0)=us (List.replicate n 0):=by simp[us]
theorem ed (xs:List F):(us xs).isEmpty=xs.isEmpty:=by cases xs<;>rfl
theorem jm (xs:List F):C6 1 (us xs)=True:=by
 simp only[C6,us,eq_iff_iff,iff_true];intro x hx;simp at hx;obtain⟨n,_,rfl⟩:=hx;rfl
theorem ce {xs:List F}{i:Nat}{A:D->Prop}:BW (us xs)[i]? A=(i<xs.length/\A (.int .u8 ((xs[i]?.getD 0).val:Int))):=by
 unfold us
 rw[List.getElem?_map]
 by_cases h:i<xs.length
 ·simp[h,BW]
 ·have:xs[i]?=none:=List.getElem?_eq_none (by omega)
  simp[this,h,BW]
def iv (xs:List F):List Int:=xs.map fun a=>(a.val:Int)
theorem G6 (xs:List F):(iv xs).length=xs.length:=by simp[iv]
theorem gV (xs:List F) (i:Nat):(iv xs)[i]?.getD 0=((xs[i]?.getD 0).val:Int):=by
 unfold iv
 rw[List.getElem?_map]
 cases xs[i]?<;>rfl
theorem lS (xs:List F) (y:F):iv xs++[(y.val:Int)]=iv (xs++[y]):=by simp[iv]
theorem pM (xs ys:List F):iv xs++iv ys=iv (xs++ys):=by simp[iv]
theorem pJ (xs:List F) (i:Nat) (y:F):(iv xs).set i (y.val:Int)=iv (xs.set i y):=by simp[iv,List.map_set]
theorem pL {xs ys:List F}:iv xs=iv ys↔xs=ys:=by
 constructor
 ·intro h
  unfold iv at h
  refine List.map_inj_right (fun a b h=>?_) |>.1 h
  exact Fin.ext (by omega)
 ·rintro rfl;rfl
theorem J3 (n:Nat):List.replicate n (0:Int)=iv (List.replicate n 0):=by simp[iv]
theorem gW (xs:List F):(iv xs).isEmpty=xs.isEmpty:=by cases xs<;>rfl
def EZ (M:List (List F)):List (Bool×List D):=M.map fun r=>(false,us r)
theorem bV {M}:(EZ M).length=M.length:=by simp[EZ]
theorem Yn {M:List (List F)}{r:List F}:EZ M++[(false,us r)]=EZ (M++[r]):=by simp[EZ]
theorem bU {M:List (List F)}{r:List F}{j:Nat}:(EZ M).set j (false,us r)=EZ (M.set j r):=by simp[EZ,List.map_set]
theorem VQ {M:List (List F)}{j:Nat}{A:Bool×List D->Prop}:BW (EZ M)[j]? A=(j<M.length/\A (false,us (M[j]?.getD []))):=by
 unfold EZ
 rw[List.getElem?_map]
 by_cases h:j<M.length
 ·simp[h,BW]
 ·have:M[j]?=none:=List.getElem?_eq_none (by omega)
  simp[this,h,BW]
theorem ZO {ix:List Nat}{M:List (List F)}(h:∀j,j∈ix->j<M.length):Il ix (EZ M)=(ix.map fun j=>M[j]?.getD []).map fun r=>.list false (us r):=by
 simp only[Il,EZ,List.map_map]
 apply List.map_congr_left
 intro j hj
 have:=h j hj
 simp[this]
def Ep (M:List (List F)):List (Bool×List D):=M.map fun r=>(false,Ab (iv r))
theorem dC {M}:(Ep M).length=M.length:=by simp[Ep]
theorem ZX {M:List (List F)}{r:List F}:Ep M++[(false,Ab (iv r))]=Ep (M++[r]):=by simp[Ep]
theorem dB {M:List (List F)}{r:List F}{j:Nat}:(Ep M).set j (false,Ab (iv r))=Ep (M.set j r):=by simp[Ep,List.map_set]
theorem VR {M:List (List F)}{j:Nat}{A:Bool×List D->Prop}:BW (Ep M)[j]? A=(j<M.length/\A (false,Ab (iv (M[j]?.getD [])))):=by
 unfold Ep
 rw[List.getElem?_map]
 by_cases h:j<M.length
 ·simp[h,BW]
 ·have:M[j]?=none:=List.getElem?_eq_none (by omega)
  simp[this,h,BW]
theorem ZP {ix:List Nat}{M:List (List F)}(h:∀j,j∈ix->j<M.length):Il ix (Ep M)=(ix.map fun j=>M[j]?.getD []).map fun r=>.list false (Ab (iv r)):=by
 simp only[Il,Ep,List.map_map]
 apply List.map_congr_left
 intro j hj
 have:=h j hj
 simp[this]
theorem qz:∀a b:F,A3 .xor .u8 (a.val:Int) (b.val:Int)=((fa a b).val:Int):=by decide +kernel
theorem p5:∀a b:F,A3 .xor .i64 (a.val:Int) (b.val:Int)=((fa a b).val:Int):=by decide +kernel
theorem lK:∀a:F,[D.int .i64 0,.int .i64 0,.int .i64 1,.int .i64 4,.int .i64 2,.int .i64 8,.int .i64 5,.int .i64 10,.int .i64 3,.int .i64 14,.int .i64 9,.int .i64 7,.int .i64 6,.int .i64 13,.int .i64 11,.int .i64 12][a.val]?=some (.int .i64 (lg a:Nat)):=by
 intro a
 have h:∀a:F,[0,0,1,4,2,8,5,10,3,14,9,7,6,13,11,12][a.val]?=some (lg a):=by decide +kernel
 have:=h a
 have e:[D.int .i64 0,.int .i64 0,.int .i64 1,.int .i64 4,.int .i64 2,.int .i64 8,.int .i64 5,.int .i64 10,.int .i64 3,.int .i64 14,.int .i64 9,.int .i64 7,.int .i64 6,.int .i64 13,.int .i64 11,.int .i64 12]=[0,0,1,4,2,8,5,10,3,14,9,7,6,13,11,12].map fun n:Nat=>D.int .i64 (n:Int):=rfl
 rw[e,List.getElem?_map,this];rfl
theorem ai (n:Nat):[D.int .u8 1,.int .u8 2,.int .u8 4,.int .u8 8,.int .u8 3,.int .u8 6,.int .u8 12,.int .u8 11,.int .u8 5,.int .u8 10,.int .u8 7,.int .u8 14,.int .u8 15,.int .u8 13,.int .u8 9][n%15]?=some (.int .u8 ((gp n).val:Int)):=by
 have e:[D.int .u8 1,.int .u8 2,.int .u8 4,.int .u8 8,.int .u8 3,.int .u8 6,.int .u8 12,.int .u8 11,.int .u8 5,.int .u8 10,.int .u8 7,.int .u8 14,.int .u8 15,.int .u8 13,.int .u8 9]=q9.map fun a:F=>D.int .u8 (a.val:Int):=rfl
 have hl:n%15<q9.length:=Nat.mod_lt _ (by decide)
 rw[e,List.getElem?_map,List.getElem?_eq_getElem hl]
 simp[gp,hl]
theorem ec (a:F):((a.val:Int)=0)=(a=0):=by
 simp only[eq_iff_iff]
 constructor
 ·intro h;exact Fin.ext (by
   have:a.val=0:=by omega
   simpa using this)
 ·rintro rfl;rfl
theorem Rl (a:F):(0:Int)<=(a.val:Int)/\(a.val:Int)<=15:=by have:=a.isLt;omega
attribute [go_sem] Yl nk jp jn Ym jo Rm nj Uz ed jm ce G6 gV lS pM pJ gW bV Yn bU VQ dC ZX dB VR qz p5 lK ec
end Go.Pw

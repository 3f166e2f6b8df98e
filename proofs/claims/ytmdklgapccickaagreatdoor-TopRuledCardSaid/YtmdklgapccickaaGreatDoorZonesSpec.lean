/- A part of the proof. -/
import Derived.Test.YtmdklgapccickaaGreatDoorPwInt
set_option linter.all false
namespace Go.Pw
abbrev Zp:=Int×Int
def qR (p:Zp):D:=.agg [.int .i64 p.1,.int .i64 p.2]
theorem G9 (p:Zp):qR p=.agg [.int .i64 p.1,.int .i64 p.2]:=rfl
def Kx (l:List Zp):List D:=l.map qR
theorem Bp (l:List Zp):(Kx l).length=l.length:=by simp[Kx]
theorem Dy (l:List Zp):C0 2 (Kx l)=True:=K7 fun _=>rfl
theorem Di {l:List Zp}{i:Nat}{A:D->Prop}:BW (Kx l)[i]? A=(i<l.length/\A (qR (l[i]?.getD default))):=Ht
structure AX where
 heads:Int
 turn:Int
 zn:Bool
 zones:List Zp
 hskew:Int
 cskew:Int
 hlo:Int
 hhi:Int
 clo:Int
 chi:Int
def gb (d:AX):List D:=[.int .i64 d.heads,.int .i64 d.turn,.list d.zn (Kx d.zones),.int .i64 d.hskew,.int .i64 d.cskew,.int .i64 d.hlo,.int .i64 d.hhi,.int .i64 d.clo,.int .i64 d.chi]
def OJ (d:AX):D:=.agg (gb d)
theorem Be (d:AX):gb d=[.int .i64 d.heads,.int .i64 d.turn,.list d.zn (Kx d.zones),.int .i64 d.hskew,.int .i64 d.cskew,.int .i64 d.hlo,.int .i64 d.hhi,.int .i64 d.clo,.int .i64 d.chi]:=rfl
theorem CB (d:AX):OJ d=.agg (gb d):=rfl
def VW (n lo hi:Int):Bool:=decide (lo<=n/\n<=hi)
theorem OB {n lo hi:Int}:VW n lo hi=true↔lo<=n/\n<=hi:=by simp[VW]
theorem bm {α:Type} [Inhabited α] {l:List α}{i:Nat}(h:i<l.length):l[i]?.getD default∈l:=by
 rw[List.getElem?_eq_getElem h];exact List.getElem_mem h
theorem O0 {α:Type} [Inhabited α] {l:List α}{p:α->Bool}:l.all p=true↔∀(j:Nat),j<l.length->p (l[j]?.getD default)=true:=by
 rw[List.all_eq_true]
 constructor
 ·intro h j hj;exact h _ (bm hj)
 ·intro h x hx
  obtain⟨j,hj,rfl⟩:=List.getElem_of_mem hx
  have:=h j hj
  rwa [List.getElem?_eq_getElem hj,Option.getD_some] at this
theorem h_ {α:Type} [Inhabited α] {l:List α}{p:α->Bool}{j:Nat}(hj:j<l.length) (h:p (l[j]?.getD default)=false):l.all p=false:=by
 cases ha:l.all p with
 |false=>rfl
 |true=>rw[O0.1 ha j hj] at h;cases h
def PH (l h:Int):Bool:=decide (0<=l/\l<=h/\h<=2000)
theorem Xi {l h:Int}:PH l h=true↔0<=l/\l<=h/\h<=2000:=by simp[PH]
def G_ (t:Int) (z:Zp):Bool:=VW z.1 1 20 && VW z.2 1 16 && decide (t.tmod z.2=0)
theorem XQ {t:Int}{z:Zp}:G_ t z=true↔(1<=z.1/\z.1<=20)/\(1<=z.2/\z.2<=16)/\t.tmod z.2=0:=by simp[G_,OB];omega
def AX.head (d:AX):Bool:=VW d.heads 1 4 && (VW d.turn 1 1000 && (VW d.zones.length 1 4 && (VW d.hskew 0 (d.turn-1) && VW d.cskew 0 (d.turn-1))))
def AX.ok (d:AX):Bool:=d.head && (PH d.hlo d.hhi && PH d.clo d.chi) && d.zones.all (G_ d.turn)
def AX.check (d:AX):Int:=if d.ok then 0 else 10
theorem AX.head_iff {d:AX}:d.head=true↔(1<=d.heads/\d.heads<=4)/\(1<=d.turn/\d.turn<=1000)/\(1<=(d.zones.length:Int)/\(d.zones.length:Int)<=4)/\(0<=d.hskew/\d.hskew<=d.turn-1)/\(0<=d.cskew/\d.cskew<=d.turn-1):=by
 simp[AX.head,OB]
theorem AX.ok_iff {d:AX}:d.ok=true↔d.head=true/\(0<=d.hlo/\d.hlo<=d.hhi/\d.hhi<=2000)/\(0<=d.clo/\d.clo<=d.chi/\d.chi<=2000)/\d.zones.all (G_ d.turn)=true:=by
 simp[AX.ok,Xi,and_assoc]
def AX.secs (d:AX):List Int:=d.zones.flatMap fun z=>List.replicate z.1.toNat z.2
def AX.cyls (d:AX):Nat:=d.secs.length
def AX.nt (d:AX):Nat:=d.cyls*d.heads.toNat
def AX.tc (d:AX) (k:Nat):Int:=((k/d.heads.toNat:Nat):Int)
def AX.th (d:AX) (k:Nat):Int:=((k%d.heads.toNat:Nat):Int)
def AX.ts (d:AX) (k:Nat):Int:=d.secs[k/d.heads.toNat]?.getD 0
def AX.tf (d:AX):Nat->Int
 |0=>0
 |k+1=>d.tf k+d.ts k
def AX.to (d:AX):Nat->Int
 |0=>0
 |k+1=>(d.to k+(if d.th k=d.heads-1 then d.cskew else d.hskew))%d.turn
def AX.size (d:AX):Int:=d.tf d.nt
def AX.base (d:AX):Nat->Nat
 |0=>0
 |i+1=>d.base i+(d.zones[i]?.getD default).1.toNat
structure Nk where
 cyl:Int
 head:Int
 sec:Int
 first:Int
 off:Int
def Xc (t:Nk):List D:=[.int .i64 t.cyl,.int .i64 t.head,.int .i64 t.sec,.int .i64 t.first,.int .i64 t.off]
def Rc (t:Nk):D:=.agg (Xc t)
theorem PG (t:Nk):Xc t=[.int .i64 t.cyl,.int .i64 t.head,.int .i64 t.sec,.int .i64 t.first,.int .i64 t.off]:=rfl
theorem PF (t:Nk):Rc t=.agg (Xc t):=rfl
def AX.track (d:AX) (k:Nat):Nk:=⟨d.tc k,d.th k,d.ts k,d.tf k,d.to k⟩
def AX.tracks (d:AX):List (List D):=(List.range d.nt).map fun k=>[Rc (d.track k)]
theorem Rb (d:AX):d.tracks.length=d.nt:=by simp[AX.tracks]
theorem Xb {d:AX}{k:Nat}{ds:List D}(h:d.tracks[k]?=some ds):k<d.nt/\ds=[Rc (d.track k)]:=by
 unfold AX.tracks at h
 rw[List.getElem?_map] at h
 by_cases hk:k<d.nt
 ·rw[List.getElem?_eq_getElem (by simpa using hk)] at h
  simp at h;exact⟨hk,h.symm⟩
 ·rw[List.getElem?_eq_none (by simpa using hk)] at h;cases h
theorem aA {d:AX}{k:Nat}(hk:k<d.nt):d.tracks[k]?=some [Rc (d.track k)]:=by
 unfold AX.tracks
 rw[List.getElem?_map,List.getElem?_eq_getElem (by simpa using hk)];simp
theorem gK (zs:List Zp) (i j:Nat) (hi:i<zs.length) (hj:j<(zs[i]?.getD default).1.toNat) (b:Nat) (hb:b=((zs.take i).map fun z=>z.1.toNat).sum) :
  (zs.flatMap fun z=>List.replicate z.1.toNat z.2)[b+j]?=some (zs[i]?.getD default).2:=by
 induction zs generalizing i b with
 |nil=>simp at hi
 |cons z zs ih =>
  cases i with
  |zero =>
   simp at hb hj;subst hb
   rw[List.flatMap_cons,List.getElem?_append_left (by simpa using hj)]
   simp[hj]
  |succ i =>
   simp at hi
   replace hj:j<(zs[i]?.getD default).1.toNat:=by simpa using hj
   rw[List.take_succ_cons,List.map_cons,List.sum_cons] at hb
   subst hb
   rw[List.flatMap_cons,List.getElem?_append_right (by simp;omega)]
   simp only[List.length_replicate]
   rw[show z.1.toNat+((zs.take i).map fun z=>z.1.toNat).sum+j-z.1.toNat=((zs.take i).map fun z=>z.1.toNat).sum+j by omega]
   simpa using ih i hi hj _ rfl
theorem VL (d:AX):∀i,i<=d.zones.length->d.base i=((d.zones.take i).map fun z=>z.1.toNat).sum
 |0,_=>by simp[AX.base]
 |i+1,h=>by
  rw[AX.base,VL d i (by omega),List.take_add_one]
  have:d.zones[i]?=some (d.zones[i]?.getD default):=by rw[List.getElem?_eq_getElem (by omega)];rfl
  rw[this];simp
theorem jH (d:AX) (i j:Nat) (hi:i<d.zones.length) (hj:j<(d.zones[i]?.getD default).1.toNat):d.secs[d.base i+j]?=some (d.zones[i]?.getD default).2 :=
 gK d.zones i j hi hj _ (VL d i (by omega))
theorem Sb (d:AX):d.base d.zones.length=d.cyls:=by
 rw[VL d _ (Nat.le_refl _),List.take_length,AX.cyls,AX.secs,List.length_flatMap];simp
theorem lF (d:AX):∀i j,i<=j->d.base i<=d.base j
 |i,j,h=>by
  induction j with
  |zero =>
     have:i=0:=by omega
     subst this;exact Nat.le_refl _
  |succ j ih =>
   rcases Nat.lt_or_ge i (j+1) with h1|h1
   ·have:=ih (by omega);rw[AX.base];omega
   ·have:i=j+1:=by omega
    subst this;exact Nat.le_refl _
structure AX.Good (d:AX):Prop where
 h1:1<=d.heads
 h2:d.heads<=4
 t1:1<=d.turn
 t2:d.turn<=1000
 z1:1<=d.zones.length
 z2:d.zones.length<=4
 k1:0<=d.hskew
 k2:d.hskew<d.turn
 c1:0<=d.cskew
 c2:d.cskew<d.turn
 s1:0<=d.hlo
 s2:d.hlo<=d.hhi
 s3:d.hhi<=2000
 s4:0<=d.clo
 s5:d.clo<=d.chi
 s6:d.chi<=2000
 z:∀i,i<d.zones.length->1<=(d.zones[i]?.getD default).1/\(d.zones[i]?.getD default).1<=20/\1<=(d.zones[i]?.getD default).2/\(d.zones[i]?.getD default).2<=16/\d.turn.tmod (d.zones[i]?.getD default).2=0
theorem MQ {d:AX}(h:d.ok=true):d.Good:=by
 obtain⟨h1,h2,h3,h4⟩:=AX.ok_iff.1 h
 obtain⟨a,b,c,e,f⟩:=AX.head_iff.1 h1
 refine⟨by omega,by omega,by omega,by omega,by omega,by omega,by omega,by omega,by omega,by omega,by omega,by omega,by omega,by omega,by omega,by omega,fun i hi=>?_⟩
 have:=XQ.1 (O0.1 h4 i hi)
 omega
section
variable {d:AX}(g:d.Good)
theorem AX.Good.hp (g:d.Good):0<d.heads.toNat:=by have:=g.h1;omega
theorem AX.Good.secs (g:d.Good) {x:Int}(hx:x∈d.secs):1<=x/\x<=16/\d.turn.tmod x=0:=by
 unfold AX.secs at hx
 obtain⟨z,hz,hx⟩:=List.mem_flatMap.1 hx
 have:=List.eq_of_mem_replicate hx
 subst this
 obtain⟨i,hi,rfl⟩:=List.getElem_of_mem hz
 have:=g.z i hi
 rw[List.getElem?_eq_getElem hi,Option.getD_some] at this
 omega
theorem AX.Good.base (g:d.Good):∀i,i<=d.zones.length->d.base i<=20*i
 |0,_=>by simp[AX.base]
 |i+1,h=>by
  have:=AX.Good.base g i (by omega)
  have:=g.z i (by omega)
  rw[AX.base];omega
theorem AX.Good.cyls (g:d.Good):d.cyls<=80:=by
 have:=g.base d.zones.length (Nat.le_refl _)
 rw[Sb] at this
 have:=g.z2
 omega
theorem cy (n H C:Nat) (hk:n<C*H):n/H<C:=Nat.div_lt_of_lt_mul (by rw[Nat.mul_comm];exact hk)
theorem AX.Good.ts (g:d.Good) {k:Nat}(hk:k<d.nt):1<=d.ts k/\d.ts k<=16/\d.turn.tmod (d.ts k)=0:=by
 have h1:k/d.heads.toNat<d.secs.length:=cy _ _ _ hk
 unfold AX.ts
 rw[List.getElem?_eq_getElem h1]
 exact g.secs (List.getElem_mem h1)
theorem AX.Good.tf (g:d.Good):∀k,k<=d.nt->(k:Int)<=d.tf k/\d.tf k<=16*k
 |0,_=>by simp[AX.tf]
 |k+1,h=>by
  have h1:=AX.Good.tf g k (by omega)
  have h2:=g.ts (k:=k) (by omega)
  rw[AX.tf];omega
theorem AX.Good.nt (g:d.Good):d.nt<=320:=by
 have h1:=g.cyls
 have h2:=g.h2
 unfold AX.nt
 calc d.cyls*d.heads.toNat<=80*4:=Nat.mul_le_mul h1 (by omega)
  _=320:=rfl
theorem AX.Good.to (g:d.Good):∀k,0<=d.to k/\d.to k<d.turn
 |0=>by have:=g.t1;rw[AX.to];omega
 |k+1=>by
  have:=g.t1
  rw[AX.to]
  exact⟨Int.emod_nonneg _ (by omega),Int.emod_lt_of_pos _ (by omega)⟩
theorem pA (c h:Nat) (hh:h<d.heads.toNat):d.tc (c*d.heads.toNat+h)=c:=by
 unfold AX.tc
 rw[Nat.mul_comm,Nat.mul_add_div (by omega),Nat.div_eq_of_lt hh];simp
theorem o_ (c h:Nat) (hh:h<d.heads.toNat):d.th (c*d.heads.toNat+h)=h:=by
 unfold AX.th
 rw[Nat.mul_comm,Nat.mul_add_mod,Nat.mod_eq_of_lt hh]
theorem o9 (c h:Nat) (hh:h<d.heads.toNat):d.ts (c*d.heads.toNat+h)=d.secs[c]?.getD 0:=by
 unfold AX.ts
 rw[Nat.mul_comm,Nat.mul_add_div (by omega),Nat.div_eq_of_lt hh];simp
end
def AX.holds (d:AX) (n:Int) (k:Nat):Prop:=d.tf k<=n/\n<d.tf k+d.ts k
instance (d:AX) (n:Int) (k:Nat):Decidable (d.holds n k):=by unfold AX.holds;infer_instance
def AX.kOf (d:AX) (n:Int):Option Nat:=(List.range d.nt).find? fun k=>decide (d.holds n k)
def AX.isAt (d:AX) (c h s:Int) (k:Nat):Prop:=(d.tc k=c/\d.th k=h)/\0<=s/\s<=d.ts k-1
instance (d:AX) (c h s:Int) (k:Nat):Decidable (d.isAt c h s k):=by unfold AX.isAt;infer_instance
def AX.kAt (d:AX) (c h s:Int):Option Nat:=(List.range d.nt).find? fun k=>decide (d.isAt c h s k)
def lR:Nk:=⟨0,0,0,0,0⟩
def AX.find (d:AX) (n:Int):Nk×Int:=if d.ok then (match d.kOf n with|some k=>(d.track k,0)|none=>(lR,1)) else (lR,10)
def AX.number (d:AX) (c h s:Int):Int×Int:=if d.ok then (match d.kAt c h s with|some k=>(d.tf k+s,0)|none=>(0,1)) else (0,10)
end Go.Pw

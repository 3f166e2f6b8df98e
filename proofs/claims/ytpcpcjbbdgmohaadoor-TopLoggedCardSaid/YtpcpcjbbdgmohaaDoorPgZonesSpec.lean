/- A part of the proof. -/
import Derived.Test.YtpcpcjbbdgmohaaDoorPkLaw
set_option linter.all false
section
namespace Go.Pw
abbrev Zp:=Int×Int
def dA (p:Zp):D:=.agg [.int .i64 p.1,.int .i64 p.2]
theorem Dw (p:Zp):dA p=.agg [.int .i64 p.1,.int .i64 p.2]:=rfl
def L6 (l:List Zp):List D:=l.map dA
theorem A1 (l:List Zp):(L6 l).length=l.length:=by simp[L6]
theorem CI (l:List Zp):C9 2 (L6 l)=True:=I0 fun _=>rfl
theorem B5 {l:List Zp}{i:Nat}{A:D->Prop}:Bc (L6 l)[i]? A=(i<l.length/\A (dA (l[i]?.getD default))):=FF
structure AR where
 heads:Int
 turn:Int
 zn:Bool
 zones:List Zp
 hskew:Int
 cskew:Int
 hlo:Int
 hhi:Int
 clo:Int
 chi:Int
def SQ (d:AR):List D:=[.int .i64 d.heads,.int .i64 d.turn,.list d.zn (L6 d.zones),.int .i64 d.hskew,.int .i64 d.cskew,.int .i64 d.hlo,.int .i64 d.hhi,.int .i64 d.clo,.int .i64 d.chi]
def HJ (d:AR):D:=.agg (SQ d)
theorem AU (d:AR):SQ d=[.int .i64 d.heads,.int .i64 d.turn,.list d.zn (L6 d.zones),.int .i64 d.hskew,.int .i64 d.cskew,.int .i64 d.hlo,.int .i64 d.hhi,.int .i64 d.clo,.int .i64 d.chi]:=rfl
theorem Ao (d:AR):HJ d=.agg (SQ d):=rfl
def EO (n lo hi:Int):Bool:=decide (lo<=n/\n<=hi)
theorem CR {n lo hi:Int}:EO n lo hi=true↔lo<=n/\n<=hi:=by simp[EO]
theorem bH {n lo hi:Int}:EO n lo hi=false↔¬(lo<=n/\n<=hi):=by simp[EO]
theorem Vj {α:Type} [Inhabited α] {l:List α}{i:Nat}(h:i<l.length):l[i]?.getD default∈l:=by
 rw[List.getElem?_eq_getElem h];exact List.getElem_mem h
theorem Lt {α:Type} [Inhabited α] {l:List α}{p:α->Bool}:l.all p=true↔∀(j:Nat),j<l.length->p (l[j]?.getD default)=true:=by
 rw[List.all_eq_true]
 constructor
 ·intro h j hj;exact h _ (Vj hj)
 ·intro h x hx
  obtain⟨j,hj,rfl⟩:=List.getElem_of_mem hx
  have:=h j hj
  rwa [List.getElem?_eq_getElem hj,Option.getD_some] at this
theorem YB {α:Type} [Inhabited α] {l:List α}{p:α->Bool}{j:Nat}(hj:j<l.length) (h:p (l[j]?.getD default)=false):l.all p=false:=by
 cases ha:l.all p with
 |false=>rfl
 |true=>rw[Lt.1 ha j hj] at h;cases h
def Hy (l h:Int):Bool:=decide (0<=l/\l<=h/\h<=2000)
theorem Sy {l h:Int}:Hy l h=true↔0<=l/\l<=h/\h<=2000:=by simp[Hy]
def FX (t:Int) (z:Zp):Bool:=EO z.1 1 20 && EO z.2 1 16 && decide (t.tmod z.2=0)
theorem Sm {t:Int}{z:Zp}:FX t z=true↔(1<=z.1/\z.1<=20)/\(1<=z.2/\z.2<=16)/\t.tmod z.2=0:=by simp[FX,CR];omega
def AR.head (d:AR):Bool:=EO d.heads 1 4 && (EO d.turn 1 1000 && (EO d.zones.length 1 4 && (EO d.hskew 0 (d.turn-1) && EO d.cskew 0 (d.turn-1))))
def AR.ok (d:AR):Bool:=d.head && (Hy d.hlo d.hhi && Hy d.clo d.chi) && d.zones.all (FX d.turn)
def AR.check (d:AR):Int:=if d.ok then 0 else 10
theorem AR.head_iff {d:AR}:d.head=true↔(1<=d.heads/\d.heads<=4)/\(1<=d.turn/\d.turn<=1000)/\(1<=(d.zones.length:Int)/\(d.zones.length:Int)<=4)/\(0<=d.hskew/\d.hskew<=d.turn-1)/\(0<=d.cskew/\d.cskew<=d.turn-1):=by
 simp[AR.head,CR]
theorem AR.ok_iff {d:AR}:d.ok=true↔d.head=true/\(0<=d.hlo/\d.hlo<=d.hhi/\d.hhi<=2000)/\(0<=d.clo/\d.clo<=d.chi/\d.chi<=2000)/\d.zones.all (FX d.turn)=true:=by
 simp[AR.ok,Sy,and_assoc]
def AR.secs (d:AR):List Int:=d.zones.flatMap fun z=>List.replicate z.1.toNat z.2
def AR.cyls (d:AR):Nat:=d.secs.length
def AR.nt (d:AR):Nat:=d.cyls*d.heads.toNat
def AR.tc (d:AR) (k:Nat):Int:=((k/d.heads.toNat:Nat):Int)
def AR.th (d:AR) (k:Nat):Int:=((k%d.heads.toNat:Nat):Int)
def AR.ts (d:AR) (k:Nat):Int:=d.secs[k/d.heads.toNat]?.getD 0
def AR.tf (d:AR):Nat->Int
 |0=>0
 |k+1=>d.tf k+d.ts k
def AR.to (d:AR):Nat->Int
 |0=>0
 |k+1=>(d.to k+(if d.th k=d.heads-1 then d.cskew else d.hskew))%d.turn
def AR.size (d:AR):Int:=d.tf d.nt
def AR.base (d:AR):Nat->Nat
 |0=>0
 |i+1=>d.base i+(d.zones[i]?.getD default).1.toNat
structure Kx where
 cyl:Int
 head:Int
 sec:Int
 first:Int
 off:Int
def Sv (t:Kx):List D:=[.int .i64 t.cyl,.int .i64 t.head,.int .i64 t.sec,.int .i64 t.first,.int .i64 t.off]
def Nj (t:Kx):D:=.agg (Sv t)
theorem L_ (t:Kx):Sv t=[.int .i64 t.cyl,.int .i64 t.head,.int .i64 t.sec,.int .i64 t.first,.int .i64 t.off]:=rfl
theorem L9 (t:Kx):Nj t=.agg (Sv t):=rfl
def AR.track (d:AR) (k:Nat):Kx:=⟨d.tc k,d.th k,d.ts k,d.tf k,d.to k⟩
def AR.tracks (d:AR):List (List D):=(List.range d.nt).map fun k=>[Nj (d.track k)]
theorem Ni (d:AR):d.tracks.length=d.nt:=by simp[AR.tracks]
theorem Su {d:AR}{k:Nat}{ds:List D}(h:d.tracks[k]?=some ds):k<d.nt/\ds=[Nj (d.track k)]:=by
 unfold AR.tracks at h
 rw[List.getElem?_map] at h
 by_cases hk:k<d.nt
 ·rw[List.getElem?_eq_getElem (by simpa using hk)] at h
  simp at h;exact⟨hk,h.symm⟩
 ·rw[List.getElem?_eq_none (by simpa using hk)] at h;cases h
theorem Uv {d:AR}{k:Nat}(hk:k<d.nt):d.tracks[k]?=some [Nj (d.track k)]:=by
 unfold AR.tracks
 rw[List.getElem?_map,List.getElem?_eq_getElem (by simpa using hk)];simp
theorem Xq (zs:List Zp) (i j:Nat) (hi:i<zs.length) (hj:j<(zs[i]?.getD default).1.toNat) (b:Nat) (hb:b=((zs.take i).map fun z=>z.1.toNat).sum) :
  (zs.flatMap fun z=>List.replicate z.1.toNat z.2)[b+j]?=some (zs[i]?.getD default).2:=by
 induction zs generalizing i b with
 |nil=>simp at hi
 |cons z zs ih =>
  cases i with
  |zero =>
   simp at hb hj;subst hb
   rw[List.flatMap_cons,List.getElem?_append_left (by simpa using hj)]
   simp[hj]
  |succ i =>
   simp at hi
   replace hj:j<(zs[i]?.getD default).1.toNat:=by simpa using hj
   rw[List.take_succ_cons,List.map_cons,List.sum_cons] at hb
   subst hb
   rw[List.flatMap_cons,List.getElem?_append_right (by simp;omega)]
   simp only[List.length_replicate]
   rw[show z.1.toNat+((zs.take i).map fun z=>z.1.toNat).sum+j-z.1.toNat=((zs.take i).map fun z=>z.1.toNat).sum+j by omega]
   simpa using ih i hi hj _ rfl
theorem Qy (d:AR):∀i,i<=d.zones.length->d.base i=((d.zones.take i).map fun z=>z.1.toNat).sum
 |0,_=>by simp[AR.base]
 |i+1,h=>by
  rw[AR.base,Qy d i (by omega),List.take_add_one]
  have:d.zones[i]?=some (d.zones[i]?.getD default):=by rw[List.getElem?_eq_getElem (by omega)];rfl
  rw[this];simp
theorem UP (d:AR) (i j:Nat) (hi:i<d.zones.length) (hj:j<(d.zones[i]?.getD default).1.toNat):d.secs[d.base i+j]?=some (d.zones[i]?.getD default).2 :=
 Xq d.zones i j hi hj _ (Qy d i (by omega))
theorem Jc (d:AR):d.base d.zones.length=d.cyls:=by
 rw[Qy d _ (Nat.le_refl _),List.take_length,AR.cyls,AR.secs,List.length_flatMap];simp
theorem Uk (d:AR):∀i j,i<=j->d.base i<=d.base j
 |i,j,h=>by
  induction j with
  |zero =>
     have:i=0:=by omega
     subst this;exact Nat.le_refl _
  |succ j ih =>
   rcases Nat.lt_or_ge i (j+1) with h1|h1
   ·have:=ih (by omega);rw[AR.base];omega
   ·have:i=j+1:=by omega
    subst this;exact Nat.le_refl _
structure AR.Good (d:AR):Prop where
 h1:1<=d.heads
 h2:d.heads<=4
 t1:1<=d.turn
 t2:d.turn<=1000
 z1:1<=d.zones.length
 z2:d.zones.length<=4
 k1:0<=d.hskew
 k2:d.hskew<d.turn
 c1:0<=d.cskew
 c2:d.cskew<d.turn
 s1:0<=d.hlo
 s2:d.hlo<=d.hhi
 s3:d.hhi<=2000
 s4:0<=d.clo
 s5:d.clo<=d.chi
 s6:d.chi<=2000
 z:∀i,i<d.zones.length->1<=(d.zones[i]?.getD default).1/\(d.zones[i]?.getD default).1<=20/\1<=(d.zones[i]?.getD default).2/\(d.zones[i]?.getD default).2<=16/\d.turn.tmod (d.zones[i]?.getD default).2=0
theorem GW {d:AR}(h:d.ok=true):d.Good:=by
 obtain⟨h1,h2,h3,h4⟩:=AR.ok_iff.1 h
 obtain⟨a,b,c,e,f⟩:=AR.head_iff.1 h1
 refine⟨by omega,by omega,by omega,by omega,by omega,by omega,by omega,by omega,by omega,by omega,by omega,by omega,by omega,by omega,by omega,by omega,fun i hi=>?_⟩
 have:=Sm.1 (Lt.1 h4 i hi)
 omega
section
variable {d:AR}(g:d.Good)
theorem AR.Good.hn (g:d.Good):((d.heads.toNat:Nat):Int)=d.heads:=by have:=g.h1;omega
theorem AR.Good.hp (g:d.Good):0<d.heads.toNat:=by have:=g.h1;omega
theorem AR.Good.secs (g:d.Good) {x:Int}(hx:x∈d.secs):1<=x/\x<=16/\d.turn.tmod x=0:=by
 unfold AR.secs at hx
 obtain⟨z,hz,hx⟩:=List.mem_flatMap.1 hx
 have:=List.eq_of_mem_replicate hx
 subst this
 obtain⟨i,hi,rfl⟩:=List.getElem_of_mem hz
 have:=g.z i hi
 rw[List.getElem?_eq_getElem hi,Option.getD_some] at this
 omega
theorem AR.Good.base (g:d.Good):∀i,i<=d.zones.length->d.base i<=20*i
 |0,_=>by simp[AR.base]
 |i+1,h=>by
  have:=AR.Good.base g i (by omega)
  have:=g.z i (by omega)
  rw[AR.base];omega
theorem AR.Good.cyls (g:d.Good):d.cyls<=80:=by
 have:=g.base d.zones.length (Nat.le_refl _)
 rw[Jc] at this
 have:=g.z2
 omega
theorem WD (n H C:Nat) (hk:n<C*H):n/H<C:=Nat.div_lt_of_lt_mul (by rw[Nat.mul_comm];exact hk)
theorem AR.Good.ts (g:d.Good) {k:Nat}(hk:k<d.nt):1<=d.ts k/\d.ts k<=16/\d.turn.tmod (d.ts k)=0:=by
 have h1:k/d.heads.toNat<d.secs.length:=WD _ _ _ hk
 unfold AR.ts
 rw[List.getElem?_eq_getElem h1]
 exact g.secs (List.getElem_mem h1)
theorem AR.Good.tf (g:d.Good):∀k,k<=d.nt->(k:Int)<=d.tf k/\d.tf k<=16*k
 |0,_=>by simp[AR.tf]
 |k+1,h=>by
  have h1:=AR.Good.tf g k (by omega)
  have h2:=g.ts (k:=k) (by omega)
  rw[AR.tf];omega
theorem AR.Good.nt (g:d.Good):d.nt<=320:=by
 have h1:=g.cyls
 have h2:=g.h2
 unfold AR.nt
 calc d.cyls*d.heads.toNat<=80*4:=Nat.mul_le_mul h1 (by omega)
  _=320:=rfl
theorem AR.Good.to (g:d.Good):∀k,0<=d.to k/\d.to k<d.turn
 |0=>by have:=g.t1;rw[AR.to];omega
 |k+1=>by
  have:=g.t1
  rw[AR.to]
  exact⟨Int.emod_nonneg _ (by omega),Int.emod_lt_of_pos _ (by omega)⟩
theorem bt (c h:Nat) (hh:h<d.heads.toNat):d.tc (c*d.heads.toNat+h)=c:=by
 unfold AR.tc
 rw[Nat.mul_comm,Nat.mul_add_div (by omega),Nat.div_eq_of_lt hh];simp
theorem br (c h:Nat) (hh:h<d.heads.toNat):d.th (c*d.heads.toNat+h)=h:=by
 unfold AR.th
 rw[Nat.mul_comm,Nat.mul_add_mod,Nat.mod_eq_of_lt hh]
theorem Z3 (c h:Nat) (hh:h<d.heads.toNat):d.ts (c*d.heads.toNat+h)=d.secs[c]?.getD 0:=by
 unfold AR.ts
 rw[Nat.mul_comm,Nat.mul_add_div (by omega),Nat.div_eq_of_lt hh];simp
end
def AR.holds (d:AR) (n:Int) (k:Nat):Prop:=d.tf k<=n/\n<d.tf k+d.ts k
instance (d:AR) (n:Int) (k:Nat):Decidable (d.holds n k):=by unfold AR.holds;infer_instance
def AR.kOf (d:AR) (n:Int):Option Nat:=(List.range d.nt).find? fun k=>decide (d.holds n k)
def AR.isAt (d:AR) (c h s:Int) (k:Nat):Prop:=(d.tc k=c/\d.th k=h)/\0<=s/\s<=d.ts k-1
instance (d:AR) (c h s:Int) (k:Nat):Decidable (d.isAt c h s k):=by unfold AR.isAt;infer_instance
def AR.kAt (d:AR) (c h s:Int):Option Nat:=(List.range d.nt).find? fun k=>decide (d.isAt c h s k)
def Z2:Kx:=⟨0,0,0,0,0⟩
def AR.find (d:AR) (n:Int):Kx×Int:=if d.ok then (match d.kOf n with|some k=>(d.track k,0)|none=>(Z2,1)) else (Z2,10)
def AR.number (d:AR) (c h s:Int):Int×Int:=if d.ok then (match d.kAt c h s with|some k=>(d.tf k+s,0)|none=>(0,1)) else (0,10)
end Go.Pw
end
section
namespace Go.Pw
def AR.own (d:AR) (k:Nat):Int:=d.turn/d.ts k
def AR.place (d:AR) (n:Int):(Int×Int×Int)×Int:=if d.ok then (match d.kOf n with|some k=>((d.tc k,d.th k,n-d.tf k),0)|none=>((0,0,0),1)) else ((0,0,0),10)
def AR.angle (d:AR) (n:Int):Int×Int×Int:=if d.ok then (match d.kOf n with|some k=>((d.to k+(n-d.tf k)*d.own k)%d.turn,d.own k,0)|none=>(0,0,1)) else (0,0,10)
def AR.wait (d:AR) (n time:Int):Int×Int:=if (d.angle n).2.2≠0 then (0,(d.angle n).2.2) else if EO time 0 1000000 then (((d.angle n).1-time)%d.turn,0) else (0,1)
def dT (t skew ticks:Int):Int:=if ticks<=skew then 0 else (ticks-skew+t-1)/t
def cX (t skew ticks:Int):Int:=skew+dT t skew ticks*t
end Go.Pw
end
section
namespace Go.Pw
def Ox (f:Int->Int) (a:Int):Nat->Int
 |0=>0
 |m+1=>Ox f a m+f (a+m)
def AR.ownN (d:AR) (m:Int):Int:=match d.kOf m with|some k=>d.own k|none=>0
def AR.kindN (d:AR) (m:Int):Int:=match d.kOf (m-1),d.kOf m with
 |some a,some b=>if d.tc b≠d.tc a then 2 else if d.th b≠d.th a then 1 else 0
 |_,_=>0
def AR.isK (d:AR) (e m:Int):Int:=if d.kindN m=e then 1 else 0
def AR.ticksR (d:AR) (a:Int) (m:Nat):Int:=Ox d.ownN a m
def AR.swR (d:AR) (e a:Int) (m:Nat):Int:=Ox (d.isK e) (a+1) (m-1)
section
variable {d:AR}
def AR.cov (d:AR) (a c:Int) (k:Nat):Nat:=(max 0 (min (d.tf k-a) c)).toNat
def AR.sws (d:AR) (e a c:Int) (k:Nat):Int:=Ox (d.isK e) (a+1) (max 0 (min (d.tf k-a) (c-1))).toNat
def AR.tks (d:AR) (a c:Int) (k:Nat):Int:=Ox d.ownN a (d.cov a c k)
end
theorem H0 {d:AR}(g:d.Good):1<=d.size/\d.size<=5120:=by
 have h1:=g.tf d.nt (Nat.le_refl _)
 have h2:=g.nt
 have h3:1<=d.nt:=by
  unfold AR.nt
  have hp:=g.hp
  have hz:=g.z1
  have h0:=g.z 0 (by omega)
  have hb:=Uk d 1 d.zones.length (by omega)
  rw[Jc,AR.base,AR.base] at hb
  calc 1=1*1:=rfl
   _<=d.cyls*d.heads.toNat:=Nat.mul_le_mul (by omega) hp
 unfold AR.size;omega
end Go.Pw
end
section
namespace Go.Pw
def dp (p:Int×Int×Int):D:=.agg [.int .i64 p.1,.int .i64 p.2.1,.int .i64 p.2.2]
def dn (l:List (Int×Int×Int)):List D:=l.map dp
def AR.pl (d:AR) (m:Int):Int×Int×Int:=match d.kOf m with|some k=>(d.tc k,d.th k,m-d.tf k)|none=>(0,0,0)
def AR.plsN (d:AR) (n:Nat):List (Int×Int×Int):=(List.range n).map fun(i:Nat)=>d.pl (i:Int)
def AR.pls (d:AR):List (Int×Int×Int):=d.plsN d.size.toNat
section
variable {d:AR}
theorem Wj (c:Nat):∀h,h<=d.heads.toNat->d.tf (c*d.heads.toNat+h)=d.tf (c*d.heads.toNat)+h*(d.secs[c]?.getD 0)
 |0,_=>by simp
 |h+1,hh=>by
  rw[←Nat.add_assoc,AR.tf,Wj c h (by omega),Z3 c h (by omega),show ((h+1:Nat):Int)=(h:Int)+1 by omega,Int.add_mul];omega
theorem aB (c:Nat):d.tf ((c+1)*d.heads.toNat)=d.tf (c*d.heads.toNat)+d.heads.toNat * (d.secs[c]?.getD 0):=by
 rw[Nat.succ_mul];exact Wj c _ (Nat.le_refl _)
theorem UL {i:Nat}(hi:i<d.zones.length):∀j,j<=(d.zones[i]?.getD default).1.toNat->d.tf ((d.base i+j)*d.heads.toNat)=d.tf (d.base i*d.heads.toNat)+j*((d.zones[i]?.getD default).2*d.heads.toNat)
 |0,_=>by simp
 |j+1,hj=>by
  rw[←Nat.add_assoc,aB,UL hi j (by omega),UP d i j hi (by omega),Option.getD_some,show ((j+1:Nat):Int)=(j:Int)+1 by omega,Int.add_mul,Int.mul_comm (d.heads.toNat:Int)];omega
end
def AR.kinds (d:AR) (a:Int) (m:Nat):List Int:=(List.range m).map fun(i:Nat)=>d.kindN (a+1+(i:Int))
def AR.gapK (d:AR) (e x:Int):Int:=if e=1 then cX d.turn d.hskew x else cX d.turn d.cskew x
end Go.Pw
end
section
namespace Go.Pw
def AR.swLo (d:AR) (e:Int):Int:=if e=1 then d.hlo else if e=2 then d.clo else 0
def AR.swHi (d:AR) (e:Int):Int:=if e=1 then d.hhi else if e=2 then d.chi else 0
def AR.swSk (d:AR) (e:Int):Int:=if e=1 then d.hskew else if e=2 then d.cskew else 0
def AR.gapAt (d:AR) (a:Int) (xs:List Int) (i:Int):Int:=if 0<d.kindN (a+1+i) then d.gapK (d.kindN (a+1+i)) (xs[i.toNat]?.getD 0) else 0
def AR.gapsL (d:AR) (a:Int) (xs:List Int) (m:Nat):Int:=Ox (d.gapAt a xs) 0 m
def AR.ticksL (d:AR) (a:Int) (c:Nat) (xs:List Int):Int:=d.ticksR a c+d.gapsL a xs (c-1)
theorem Sx (f:Int->Int) (a:Int):∀m,Ox (fun i=>f (a+i)) 0 m=Ox f a m
 |0=>rfl
 |m+1=>by rw[Ox,Ox,Sx f a m];simp
structure J8 (d e:AR):Prop where
 heads:e.heads=d.heads
 zones:e.zones=d.zones
 turn:e.turn=d.turn
section
variable {d e:AR}(s:J8 d e)
theorem J8.secs (s:J8 d e):e.secs=d.secs:=by unfold AR.secs;rw[s.zones]
theorem J8.cyls (s:J8 d e):e.cyls=d.cyls:=by unfold AR.cyls;rw[s.secs]
theorem J8.nt (s:J8 d e):e.nt=d.nt:=by unfold AR.nt;rw[s.cyls,s.heads]
theorem J8.ts (s:J8 d e) (k:Nat):e.ts k=d.ts k:=by unfold AR.ts;rw[s.heads,s.secs]
theorem J8.tf (s:J8 d e):∀k,e.tf k=d.tf k
 |0=>rfl
 |k+1=>by rw[AR.tf,AR.tf,J8.tf s k,s.ts]
theorem J8.size (s:J8 d e):e.size=d.size:=by unfold AR.size;rw[s.nt,s.tf]
end
def AR.cp (d:AR):AR:={ d with zn:=false }
def AR.skews (d:AR) (h c:Int):AR:={ d with hskew:=h,cskew:=c }
end Go.Pw
end
section
namespace Go.Pw
structure Bd where
 num:Int
 blk:Int
 val:Int
 tail:Int
 bad:Bool
instance:Inhabited Bd:=⟨⟨0,0,0,0,false⟩⟩
theorem Bd.ext' {a b:Bd}(h1:a.num=b.num) (h2:a.blk=b.blk) (h3:a.val=b.val) (h4:a.tail=b.tail) (h5:a.bad=b.bad):a=b:=by cases a;cases b;simp_all
def TF (r:Bd):List D:=[.int .i64 r.num,.int .i64 r.blk,.int .i64 r.val,.int .i64 r.tail,.bool r.bad]
def O3 (r:Bd):D:=.agg (TF r)
theorem A8 (r:Bd):TF r=[.int .i64 r.num,.int .i64 r.blk,.int .i64 r.val,.int .i64 r.tail,.bool r.bad]:=rfl
theorem A9 (r:Bd):O3 r=.agg (TF r):=rfl
def DH (l:List Bd):List D:=l.map O3
theorem AJ (l:List Bd):(DH l).length=l.length:=by simp[DH]
theorem GZ:DH []=[]:=rfl
theorem An (l:List Bd):C9 5 (DH l)=True:=I0 fun _=>rfl
theorem H4 (l:List Bd) (a b c d:Int) (e:Bool):DH l++[.agg [.int .i64 a,.int .i64 b,.int .i64 c,.int .i64 d,.bool e]]=DH (l++[⟨a,b,c,d,e⟩]):=by simp[DH,O3,TF]
theorem Aq {l:List Bd}{i:Nat}{A:D->Prop}:Bc (DH l)[i]? A=(i<l.length/\A (O3 (l[i]?.getD default))):=FF
def DZ:Bd:=⟨-1,0,0,0,false⟩
def E':Bd:=⟨0,0,0,0,true⟩
structure AY where
 disk:AR
 blocks:Int
 from':Int
 sn:Bool
 slots:List Bd
def OC (l:AY):List D:=SQ l.disk++[.int .i64 l.blocks,.int .i64 l.from',.list l.sn (DH l.slots)]
def J2 (l:AY):D:=.agg (OC l)
theorem Aa (l:AY):OC l=[.int .i64 l.disk.heads,.int .i64 l.disk.turn,.list l.disk.zn (L6 l.disk.zones),.int .i64 l.disk.hskew,.int .i64 l.disk.cskew,.int .i64 l.disk.hlo,.int .i64 l.disk.hhi,.int .i64 l.disk.clo,.int .i64 l.disk.chi,.int .i64 l.blocks,.int .i64 l.from',.list l.sn (DH l.slots)]:=rfl
theorem Am (l:AY):J2 l=.agg (OC l):=rfl
def F7 (r:Bd):Bool:=decide (r.num=-1) && decide (r.blk=0) && decide (r.val=0) && decide (r.tail=0) && !r.bad
def JS (r:Bd):Bool:=decide (r.num=0) && decide (r.blk=0) && decide (r.val=0) && decide (r.tail=0) && r.bad
def Pc (blocks:Int) (m:Nat) (i:Int) (r:Bd):Bool:=!r.bad && (EO r.num 0 999 && (decide (r.num.tmod m=i) && (EO r.blk 0 (blocks-1) && (EO r.val 0 999 && EO r.tail 0 r.num))))
def Ec (blocks:Int) (m:Nat) (i:Int) (r:Bd):Bool:=F7 r || (JS r || Pc blocks m i r)
def AY.head (l:AY):Bool:=EO l.blocks 1 8 && EO l.slots.length 2 12 && EO l.from' 0 (l.disk.size-l.slots.length)
def AY.allOk (l:AY):Nat->Bool
 |0=>true
 |i+1=>l.allOk i && Ec l.blocks l.slots.length i (l.slots[i]?.getD default)
def AY.ok (l:AY):Bool:=l.disk.ok && (l.head && l.allOk l.slots.length)
def AY.check (l:AY):Int:=if !l.disk.ok then 10 else if l.head && l.allOk l.slots.length then 0 else 160
theorem AY.check_ok {l:AY}:l.check=0↔l.ok=true:=by
 unfold AY.check AY.ok
 cases l.disk.ok<;>cases (l.head && l.allOk l.slots.length)<;>simp
theorem Sd {l:AY}:∀{n:Nat},l.allOk n=true->∀i,i<n->Ec l.blocks l.slots.length i (l.slots[i]?.getD default)=true
 |0,_,i,hi=>by omega
 |n+1,h,i,hi=>by
  rw[AY.allOk,Bool.and_eq_true] at h
  rcases (show i<n\/i=n by omega) with h1|h1
  ·exact Sd h.1 i h1
  ·subst h1;exact h.2
theorem QB {l:AY}:∀{n i:Nat},i<n->Ec l.blocks l.slots.length i (l.slots[i]?.getD default)=false->l.allOk n=false
 |0,i,h,_=>by omega
 |n+1,i,h,hb=>by
  rw[AY.allOk]
  rcases (show i<n\/i=n by omega) with h1|h1
  ·rw[QB h1 hb,Bool.false_and]
  ·subst h1;rw[hb,Bool.and_false]
def Gn (s:List Bd):Nat->Bd
 |0=>DZ
 |i+1=>if !(s[i]?.getD default).bad && decide ((Gn s i).num<(s[i]?.getD default).num) then s[i]?.getD default else Gn s i
def AY.newest (l:AY):Bd:=Gn l.slots l.slots.length
theorem UV (s:List Bd):∀i,-1<=(Gn s i).num
 |0=>by simp[Gn,DZ]
 |i+1=>by
  have:=UV s i
  rw[Gn];split
  ·rename_i h;simp at h;omega
  ·exact this
theorem H5 (s:List Bd):∀i,i<=s.length->Gn s i=DZ\/∃j,j<i/\Gn s i=s[j]?.getD default/\(s[j]?.getD default).bad=false
 |0,_=>.inl rfl
 |i+1,h=>by
  rw[Gn]
  by_cases hc:(!(s[i]?.getD default).bad && decide ((Gn s i).num<(s[i]?.getD default).num))=true
  ·rw[if_pos hc]
   right
   refine⟨i,by omega,rfl,?_⟩
   simp at hc;exact hc.1
  ·rw[if_neg hc]
   rcases H5 s i (by omega) with h1|⟨j,h1,h2⟩
   ·exact .inl h1
   ·exact .inr ⟨j,by omega,h2⟩
def AY.at' (l:AY) (n:Int):Bd:=l.slots[(n.tmod l.slots.length).toNat]?.getD default
def AY.keptN (l:AY) (t:Int) (n:Nat):List Bd:=(List.range n).map fun(i:Nat)=>l.at' (t+(i:Int))
def AY.whole (l:AY) (t:Int):Nat->Bool
 |0=>true
 |n+1=>l.whole t n && (!(l.at' (t+n)).bad && decide ((l.at' (t+n)).num=t+n))
def AY.many (l:AY):Nat:=(l.newest.num+1-l.newest.tail).toNat
def AY.kept (l:AY):List Bd:=l.keptN l.newest.tail l.many
def AY.full (l:AY):Bool:=l.whole l.newest.tail l.many
theorem MJ (l:AY) (t:Int) (n:Nat):(l.keptN t n).length=n:=by simp[AY.keptN]
theorem H7 (l:AY) (t:Int) (n:Nat):l.keptN t (n+1)=l.keptN t n++[l.at' (t+n)]:=by simp[AY.keptN,List.range_succ]
theorem Jq {l:AY}{t:Int}:∀{n i:Nat},i<n->(!(l.at' (t+i)).bad && decide ((l.at' (t+i)).num=t+i))=false->l.whole t n=false
 |0,i,h,_=>by omega
 |n+1,i,h,hb=>by
  rw[AY.whole]
  rcases (show i<n\/i=n by omega) with h1|h1
  ·rw[Jq h1 hb,Bool.false_and]
  ·subst h1;rw[hb,Bool.and_false]
structure AY.Good (l:AY):Prop where
 d:l.disk.ok=true
 b1:1<=l.blocks
 b2:l.blocks<=8
 m1:2<=l.slots.length
 m2:l.slots.length<=12
 f1:0<=l.from'
 f2:l.from'+l.slots.length<=l.disk.size
 s:∀i,i<l.slots.length->(l.slots[i]?.getD default).bad=false->(l.slots[i]?.getD default).num≠-1->(0<=(l.slots[i]?.getD default).num/\(l.slots[i]?.getD default).num<=999)/\(l.slots[i]?.getD default).num.tmod l.slots.length=i/\(0<=(l.slots[i]?.getD default).blk/\(l.slots[i]?.getD default).blk<=l.blocks-1)/\(0<=(l.slots[i]?.getD default).val/\(l.slots[i]?.getD default).val<=999)/\(0<=(l.slots[i]?.getD default).tail/\(l.slots[i]?.getD default).tail<=(l.slots[i]?.getD default).num)
theorem XQ {l:AY}(h:l.ok=true):l.Good:=by
 unfold AY.ok AY.head at h
 simp only[Bool.and_eq_true,CR] at h
 obtain⟨h1,⟨⟨h2,h3⟩,h4⟩,h5⟩:=h
 refine⟨h1,by omega,by omega,by omega,by omega,by omega,by omega,fun i hi hb hn=>?_⟩
 have:=Sd h5 i hi
 unfold Ec at this
 rw[Bool.or_eq_true,Bool.or_eq_true] at this
 rcases this with h6|h6|h6
 ·unfold F7 at h6
  simp only[Bool.and_eq_true,decide_eq_true_eq] at h6
  exact absurd h6.1.1.1.1 hn
 ·unfold JS at h6
  rw[hb] at h6;simp at h6
 ·unfold Pc at h6
  simp only[Bool.and_eq_true,CR,decide_eq_true_eq] at h6
  exact⟨h6.2.1,h6.2.2.1,h6.2.2.2.1,h6.2.2.2.2.1,h6.2.2.2.2.2⟩
theorem Gm (s:List Bd):∀i,Gn s i=DZ\/-1<(Gn s i).num
 |0=>.inl rfl
 |i+1=>by
  rw[Gn]
  split
  ·rename_i hc
   simp at hc
   have:=UV s i
   right;omega
  ·exact Gm s i
theorem Bs {l:AY}(g:l.Good):l.newest.bad=false/\(-1<=l.newest.num/\l.newest.num<=999)/\(0<=l.newest.tail/\l.newest.tail<=l.newest.num+1):=by
 unfold AY.newest
 rcases Gm l.slots l.slots.length with h|h
 ·rw[h];simp[DZ]
 ·rcases H5 l.slots l.slots.length (Nat.le_refl _) with h1|⟨j,hj,h2,h3⟩
  ·rw[h1];simp[DZ]
  ·rw[h2] at h ⊢
   have:=g.s j hj h3 (by omega)
   exact⟨h3,by omega,by omega⟩
end Go.Pw
end

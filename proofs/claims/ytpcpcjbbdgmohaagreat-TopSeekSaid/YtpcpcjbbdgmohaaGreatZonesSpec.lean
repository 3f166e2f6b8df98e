/- A part of the proof. -/
import Derived.Test.YtpcpcjbbdgmohaaGreatPwInt
set_option linter.all false
namespace Go.Pw
abbrev Zp:=Int×Int
def bh (p:Zp):D:=.agg [.int .i64 p.1,.int .i64 p.2]
theorem BR (p:Zp):bh p=.agg [.int .i64 p.1,.int .i64 p.2]:=rfl
def FJ (l:List Zp):List D:=l.map bh
theorem AY (l:List Zp):(FJ l).length=l.length:=by simp[FJ]
theorem Ar (l:List Zp):Ci 2 (FJ l)=True:=J7 fun _=>rfl
theorem An {l:List Zp}{i:Nat}{A:D->Prop}:Ax (FJ l)[i]? A=(i<l.length/\A (bh (l[i]?.getD default))):=HA
structure AG where
 heads:Int
 turn:Int
 zn:Bool
 zones:List Zp
 hskew:Int
 cskew:Int
 hlo:Int
 hhi:Int
 clo:Int
 chi:Int
def WP (d:AG):List D:=[.int .i64 d.heads,.int .i64 d.turn,.list d.zn (FJ d.zones),.int .i64 d.hskew,.int .i64 d.cskew,.int .i64 d.hlo,.int .i64 d.hhi,.int .i64 d.clo,.int .i64 d.chi]
def Cr (d:AG):D:=.agg (WP d)
theorem AD (d:AG):WP d=[.int .i64 d.heads,.int .i64 d.turn,.list d.zn (FJ d.zones),.int .i64 d.hskew,.int .i64 d.cskew,.int .i64 d.hlo,.int .i64 d.hhi,.int .i64 d.clo,.int .i64 d.chi]:=rfl
theorem AI (d:AG):Cr d=.agg (WP d):=rfl
def FR (n lo hi:Int):Bool:=decide (lo<=n/\n<=hi)
theorem Di {n lo hi:Int}:FR n lo hi=true↔lo<=n/\n<=hi:=by simp[FR]
theorem Xx {n lo hi:Int}:FR n lo hi=false↔¬(lo<=n/\n<=hi):=by simp[FR]
theorem aY {α:Type} [Inhabited α] {l:List α}{i:Nat}(h:i<l.length):l[i]?.getD default∈l:=by
 rw[List.getElem?_eq_getElem h];exact List.getElem_mem h
theorem Ie {α:Type} [Inhabited α] {l:List α}{p:α->Bool}:l.all p=true↔∀(j:Nat),j<l.length->p (l[j]?.getD default)=true:=by
 rw[List.all_eq_true]
 constructor
 ·intro h j hj;exact h _ (aY hj)
 ·intro h x hx
  obtain⟨j,hj,rfl⟩:=List.getElem_of_mem hx
  have:=h j hj
  rwa [List.getElem?_eq_getElem hj,Option.getD_some] at this
theorem Wl {α:Type} [Inhabited α] {l:List α}{p:α->Bool}{j:Nat}(hj:j<l.length) (h:p (l[j]?.getD default)=false):l.all p=false:=by
 cases ha:l.all p with
 |false=>rfl
 |true=>rw[Ie.1 ha j hj] at h;cases h
def I2 (l h:Int):Bool:=decide (0<=l/\l<=h/\h<=2000)
theorem W_ {l h:Int}:I2 l h=true↔0<=l/\l<=h/\h<=2000:=by simp[I2]
def FK (t:Int) (z:Zp):Bool:=FR z.1 1 20 && FR z.2 1 16 && decide (t.tmod z.2=0)
theorem Wt {t:Int}{z:Zp}:FK t z=true↔(1<=z.1/\z.1<=20)/\(1<=z.2/\z.2<=16)/\t.tmod z.2=0:=by simp[FK,Di];omega
def AG.head (d:AG):Bool:=FR d.heads 1 4 && (FR d.turn 1 1000 && (FR d.zones.length 1 4 && (FR d.hskew 0 (d.turn-1) && FR d.cskew 0 (d.turn-1))))
def AG.ok (d:AG):Bool:=d.head && (I2 d.hlo d.hhi && I2 d.clo d.chi) && d.zones.all (FK d.turn)
def AG.check (d:AG):Int:=if d.ok then 0 else 10
theorem AG.head_iff {d:AG}:d.head=true↔(1<=d.heads/\d.heads<=4)/\(1<=d.turn/\d.turn<=1000)/\(1<=(d.zones.length:Int)/\(d.zones.length:Int)<=4)/\(0<=d.hskew/\d.hskew<=d.turn-1)/\(0<=d.cskew/\d.cskew<=d.turn-1):=by
 simp[AG.head,Di]
theorem AG.ok_iff {d:AG}:d.ok=true↔d.head=true/\(0<=d.hlo/\d.hlo<=d.hhi/\d.hhi<=2000)/\(0<=d.clo/\d.clo<=d.chi/\d.chi<=2000)/\d.zones.all (FK d.turn)=true:=by
 simp[AG.ok,W_,and_assoc]
def AG.secs (d:AG):List Int:=d.zones.flatMap fun z=>List.replicate z.1.toNat z.2
def AG.cyls (d:AG):Nat:=d.secs.length
def AG.nt (d:AG):Nat:=d.cyls*d.heads.toNat
def AG.tc (d:AG) (k:Nat):Int:=((k/d.heads.toNat:Nat):Int)
def AG.th (d:AG) (k:Nat):Int:=((k%d.heads.toNat:Nat):Int)
def AG.ts (d:AG) (k:Nat):Int:=d.secs[k/d.heads.toNat]?.getD 0
def AG.tf (d:AG):Nat->Int
 |0=>0
 |k+1=>d.tf k+d.ts k
def AG.to (d:AG):Nat->Int
 |0=>0
 |k+1=>(d.to k+(if d.th k=d.heads-1 then d.cskew else d.hskew))%d.turn
def AG.size (d:AG):Int:=d.tf d.nt
def AG.base (d:AG):Nat->Nat
 |0=>0
 |i+1=>d.base i+(d.zones[i]?.getD default).1.toNat
structure Mn where
 cyl:Int
 head:Int
 sec:Int
 first:Int
 off:Int
def Tu (t:Mn):List D:=[.int .i64 t.cyl,.int .i64 t.head,.int .i64 t.sec,.int .i64 t.first,.int .i64 t.off]
def OP (t:Mn):D:=.agg (Tu t)
theorem BA (t:Mn):Tu t=[.int .i64 t.cyl,.int .i64 t.head,.int .i64 t.sec,.int .i64 t.first,.int .i64 t.off]:=rfl
theorem A_ (t:Mn):OP t=.agg (Tu t):=rfl
def AG.track (d:AG) (k:Nat):Mn:=⟨d.tc k,d.th k,d.ts k,d.tf k,d.to k⟩
def AG.tracks (d:AG):List (List D):=(List.range d.nt).map fun k=>[OP (d.track k)]
theorem Iz (d:AG):d.tracks.length=d.nt:=by simp[AG.tracks]
theorem MO {d:AG}{k:Nat}{ds:List D}(h:d.tracks[k]?=some ds):k<d.nt/\ds=[OP (d.track k)]:=by
 unfold AG.tracks at h
 rw[List.getElem?_map] at h
 by_cases hk:k<d.nt
 ·rw[List.getElem?_eq_getElem (by simpa using hk)] at h
  simp at h;exact⟨hk,h.symm⟩
 ·rw[List.getElem?_eq_none (by simpa using hk)] at h;cases h
theorem ZL {d:AG}{k:Nat}(hk:k<d.nt):d.tracks[k]?=some [OP (d.track k)]:=by
 unfold AG.tracks
 rw[List.getElem?_map,List.getElem?_eq_getElem (by simpa using hk)];simp
theorem ef (zs:List Zp) (i j:Nat) (hi:i<zs.length) (hj:j<(zs[i]?.getD default).1.toNat) (b:Nat) (hb:b=((zs.take i).map fun z=>z.1.toNat).sum) :
  (zs.flatMap fun z=>List.replicate z.1.toNat z.2)[b+j]?=some (zs[i]?.getD default).2:=by
 induction zs generalizing i b with
 |nil=>simp at hi
 |cons z zs ih =>
  cases i with
  |zero =>
   simp at hb hj;subst hb
   rw[List.flatMap_cons,List.getElem?_append_left (by simpa using hj)]
   simp[hj]
  |succ i =>
   simp at hi
   replace hj:j<(zs[i]?.getD default).1.toNat:=by simpa using hj
   rw[List.take_succ_cons,List.map_cons,List.sum_cons] at hb
   subst hb
   rw[List.flatMap_cons,List.getElem?_append_right (by simp;omega)]
   simp only[List.length_replicate]
   rw[show z.1.toNat+((zs.take i).map fun z=>z.1.toNat).sum+j-z.1.toNat=((zs.take i).map fun z=>z.1.toNat).sum+j by omega]
   simpa using ih i hi hj _ rfl
theorem Ur (d:AG):∀i,i<=d.zones.length->d.base i=((d.zones.take i).map fun z=>z.1.toNat).sum
 |0,_=>by simp[AG.base]
 |i+1,h=>by
  rw[AG.base,Ur d i (by omega),List.take_add_one]
  have:d.zones[i]?=some (d.zones[i]?.getD default):=by rw[List.getElem?_eq_getElem (by omega)];rfl
  rw[this];simp
theorem UF (d:AG) (i j:Nat) (hi:i<d.zones.length) (hj:j<(d.zones[i]?.getD default).1.toNat):d.secs[d.base i+j]?=some (d.zones[i]?.getD default).2 :=
 ef d.zones i j hi hj _ (Ur d i (by omega))
theorem FV (d:AG):d.base d.zones.length=d.cyls:=by
 rw[Ur d _ (Nat.le_refl _),List.take_length,AG.cyls,AG.secs,List.length_flatMap];simp
theorem QT (d:AG):∀i j,i<=j->d.base i<=d.base j
 |i,j,h=>by
  induction j with
  |zero =>
     have:i=0:=by omega
     subst this;exact Nat.le_refl _
  |succ j ih =>
   rcases Nat.lt_or_ge i (j+1) with h1|h1
   ·have:=ih (by omega);rw[AG.base];omega
   ·have:i=j+1:=by omega
    subst this;exact Nat.le_refl _
structure AG.Good (d:AG):Prop where
 h1:1<=d.heads
 h2:d.heads<=4
 t1:1<=d.turn
 t2:d.turn<=1000
 z1:1<=d.zones.length
 z2:d.zones.length<=4
 k1:0<=d.hskew
 k2:d.hskew<d.turn
 c1:0<=d.cskew
 c2:d.cskew<d.turn
 s1:0<=d.hlo
 s2:d.hlo<=d.hhi
 s3:d.hhi<=2000
 s4:0<=d.clo
 s5:d.clo<=d.chi
 s6:d.chi<=2000
 z:∀i,i<d.zones.length->1<=(d.zones[i]?.getD default).1/\(d.zones[i]?.getD default).1<=20/\1<=(d.zones[i]?.getD default).2/\(d.zones[i]?.getD default).2<=16/\d.turn.tmod (d.zones[i]?.getD default).2=0
theorem Bu {d:AG}(h:d.ok=true):d.Good:=by
 obtain⟨h1,h2,h3,h4⟩:=AG.ok_iff.1 h
 obtain⟨a,b,c,e,f⟩:=AG.head_iff.1 h1
 refine⟨by omega,by omega,by omega,by omega,by omega,by omega,by omega,by omega,by omega,by omega,by omega,by omega,by omega,by omega,by omega,by omega,fun i hi=>?_⟩
 have:=Wt.1 (Ie.1 h4 i hi)
 omega
section
variable {d:AG}(g:d.Good)
theorem AG.Good.hn (g:d.Good):((d.heads.toNat:Nat):Int)=d.heads:=by have:=g.h1;omega
theorem AG.Good.hp (g:d.Good):0<d.heads.toNat:=by have:=g.h1;omega
theorem AG.Good.secs (g:d.Good) {x:Int}(hx:x∈d.secs):1<=x/\x<=16/\d.turn.tmod x=0:=by
 unfold AG.secs at hx
 obtain⟨z,hz,hx⟩:=List.mem_flatMap.1 hx
 have:=List.eq_of_mem_replicate hx
 subst this
 obtain⟨i,hi,rfl⟩:=List.getElem_of_mem hz
 have:=g.z i hi
 rw[List.getElem?_eq_getElem hi,Option.getD_some] at this
 omega
theorem AG.Good.base (g:d.Good):∀i,i<=d.zones.length->d.base i<=20*i
 |0,_=>by simp[AG.base]
 |i+1,h=>by
  have:=AG.Good.base g i (by omega)
  have:=g.z i (by omega)
  rw[AG.base];omega
theorem AG.Good.cyls (g:d.Good):d.cyls<=80:=by
 have:=g.base d.zones.length (Nat.le_refl _)
 rw[FV] at this
 have:=g.z2
 omega
theorem Ta (n H C:Nat) (hk:n<C*H):n/H<C:=Nat.div_lt_of_lt_mul (by rw[Nat.mul_comm];exact hk)
theorem AG.Good.ts (g:d.Good) {k:Nat}(hk:k<d.nt):1<=d.ts k/\d.ts k<=16/\d.turn.tmod (d.ts k)=0:=by
 have h1:k/d.heads.toNat<d.secs.length:=Ta _ _ _ hk
 unfold AG.ts
 rw[List.getElem?_eq_getElem h1]
 exact g.secs (List.getElem_mem h1)
theorem AG.Good.tf (g:d.Good):∀k,k<=d.nt->(k:Int)<=d.tf k/\d.tf k<=16*k
 |0,_=>by simp[AG.tf]
 |k+1,h=>by
  have h1:=AG.Good.tf g k (by omega)
  have h2:=g.ts (k:=k) (by omega)
  rw[AG.tf];omega
theorem AG.Good.nt (g:d.Good):d.nt<=320:=by
 have h1:=g.cyls
 have h2:=g.h2
 unfold AG.nt
 calc d.cyls*d.heads.toNat<=80*4:=Nat.mul_le_mul h1 (by omega)
  _=320:=rfl
theorem AG.Good.to (g:d.Good):∀k,0<=d.to k/\d.to k<d.turn
 |0=>by have:=g.t1;rw[AG.to];omega
 |k+1=>by
  have:=g.t1
  rw[AG.to]
  exact⟨Int.emod_nonneg _ (by omega),Int.emod_lt_of_pos _ (by omega)⟩
theorem i5 (c h:Nat) (hh:h<d.heads.toNat):d.tc (c*d.heads.toNat+h)=c:=by
 unfold AG.tc
 rw[Nat.mul_comm,Nat.mul_add_div (by omega),Nat.div_eq_of_lt hh];simp
theorem i0 (c h:Nat) (hh:h<d.heads.toNat):d.th (c*d.heads.toNat+h)=h:=by
 unfold AG.th
 rw[Nat.mul_comm,Nat.mul_add_mod,Nat.mod_eq_of_lt hh]
theorem cA (c h:Nat) (hh:h<d.heads.toNat):d.ts (c*d.heads.toNat+h)=d.secs[c]?.getD 0:=by
 unfold AG.ts
 rw[Nat.mul_comm,Nat.mul_add_div (by omega),Nat.div_eq_of_lt hh];simp
end
def AG.holds (d:AG) (n:Int) (k:Nat):Prop:=d.tf k<=n/\n<d.tf k+d.ts k
instance (d:AG) (n:Int) (k:Nat):Decidable (d.holds n k):=by unfold AG.holds;infer_instance
def AG.kOf (d:AG) (n:Int):Option Nat:=(List.range d.nt).find? fun k=>decide (d.holds n k)
def AG.isAt (d:AG) (c h s:Int) (k:Nat):Prop:=(d.tc k=c/\d.th k=h)/\0<=s/\s<=d.ts k-1
instance (d:AG) (c h s:Int) (k:Nat):Decidable (d.isAt c h s k):=by unfold AG.isAt;infer_instance
def AG.kAt (d:AG) (c h s:Int):Option Nat:=(List.range d.nt).find? fun k=>decide (d.isAt c h s k)
theorem Tw {d:AG}(g:d.Good) {i j:Nat}(h:i<j) (hj:j<=d.nt):d.tf i+d.ts i<=d.tf j:=by
 induction j with
 |zero=>omega
 |succ j ih =>
  rw[AG.tf]
  by_cases hi:i=j
  ·subst hi;omega
  ·have:=ih (by omega) (by omega)
   have:=g.ts (k:=j) (by omega)
   omega
theorem UV {d:AG}(g:d.Good) {n:Int}{i j:Nat}(hi:i<d.nt) (hj:j<d.nt) (h1:d.holds n i) (h2:d.holds n j):i=j:=by
 unfold AG.holds at h1 h2
 rcases Nat.lt_trichotomy i j with h|h|h
 ·have:=Tw g h (by omega);omega
 ·exact h
 ·have:=Tw g h (by omega);omega
theorem P0 {p:Nat->Bool}{n k:Nat}(h:(List.range n).find? p=some k):k<n/\p k=true :=
 ⟨by simpa using List.mem_of_find?_eq_some h,List.find?_some h⟩
theorem P1 {p:Nat->Bool}{n:Nat}:(List.range n).find? p=none↔∀k,k<n->p k=false:=by
 rw[List.find?_eq_none];simp
theorem Vv {d:AG}{n:Int}:d.kOf n=none↔∀k,k<d.nt->¬d.holds n k:=by
 unfold AG.kOf;rw[P1];simp
theorem E3 {d:AG}{n:Int}{k:Nat}(h:d.kOf n=some k):k<d.nt/\d.holds n k:=by
 obtain⟨h1,h2⟩:=P0 h;exact⟨h1,by simpa using h2⟩
theorem GF {d:AG}(g:d.Good) {n:Int}{k:Nat}(hk:k<d.nt) (h:d.holds n k):d.kOf n=some k:=by
 cases hf:d.kOf n with
 |none=>exact absurd h (Vv.1 hf k hk)
 |some j=>rw[UV g (E3 hf).1 hk (E3 hf).2 h]
theorem Y7 {d:AG}(g:d.Good):∀(m:Nat),m<=d.nt->∀n:Int,0<=n->n<d.tf m->∃k,k<m/\d.holds n k
 |0,_,n,h0,h1=>by simp[AG.tf] at h1;omega
 |m+1,hm,n,h0,h1=>by
  by_cases h:n<d.tf m
  ·obtain⟨k,hk,hh⟩:=Y7 g m (by omega) n h0 h
   exact⟨k,by omega,hh⟩
  ·rw[AG.tf] at h1
   exact⟨m,by omega,by unfold AG.holds;omega⟩
theorem LP {d:AG}(g:d.Good) (n:Int):(d.kOf n).isSome=true↔0<=n/\n<d.size:=by
 constructor
 ·intro h
  obtain⟨k,hk⟩:=Option.isSome_iff_exists.1 h
  obtain⟨h1,h2⟩:=E3 hk
  have h3:=Tw g h1 (Nat.le_refl _)
  have h4:=g.tf k (by omega)
  unfold AG.holds at h2
  unfold AG.size;omega
 ·intro h
  obtain⟨k,hk,hh⟩:=Y7 g d.nt (Nat.le_refl _) n h.1 h.2
  rw[GF g hk hh];rfl
def bi:Mn:=⟨0,0,0,0,0⟩
theorem D8:bi=⟨0,0,0,0,0⟩:=rfl
def AG.find (d:AG) (n:Int):Mn×Int:=if d.ok then (match d.kOf n with|some k=>(d.track k,0)|none=>(bi,1)) else (bi,10)
def AG.number (d:AG) (c h s:Int):Int×Int:=if d.ok then (match d.kAt c h s with|some k=>(d.tf k+s,0)|none=>(0,1)) else (0,10)
end Go.Pw

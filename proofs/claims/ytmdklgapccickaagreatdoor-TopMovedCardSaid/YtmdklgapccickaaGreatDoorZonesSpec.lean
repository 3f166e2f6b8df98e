/- Part. -/
import Derived.Test.YtmdklgapccickaaGreatDoorPwInt
set_option linter.all false
open List renaming getElem?_eq_getElem->aa,range->az,getElem_mem->ck,getElem_of_mem->cp,replicate->cw,getElem?_map->c8,flatMap_cons->ea
open Nat renaming le_refl->ax,mul_comm->ay,mul_add_div->eb,div_eq_of_lt->et
namespace Go.Pw
abbrev Zp:=Int×Int
def z_(p:Zp):D:=.agg [.int .i64 p.1,.int .i64 p.2]
theorem EH(p:Zp):z_ p=.agg [.int .i64 p.1,.int .i64 p.2]:=rfl
def HF(l:List Zp):List D:=l.map z_
theorem Ai(l:List Zp):(HF l).length=l.length:=by simp[HF]
theorem Bm(l:List Zp):Cc 2 (HF l)=True:=KU fun _=>rfl
theorem Bg{l:List Zp}{i:Nat}{A:D->Prop}:Au (HF l)[i]? A=(i<l.length/\A (z_ (l[i]?.getD default))):=GN
structure AQ where
 heads:Int
 turn:Int
 zn:Bool
 zones:List Zp
 hskew:Int
 cskew:Int
 hlo:Int
 hhi:Int
 clo:Int
 chi:Int
def i_(d:AQ):List D:=[.int .i64 d.heads,.int .i64 d.turn,.list d.zn (HF d.zones),.int .i64 d.hskew,.int .i64 d.cskew,.int .i64 d.hlo,.int .i64 d.hhi,.int .i64 d.clo,.int .i64 d.chi]
def K8(d:AQ):D:=.agg (i_ d)
theorem AX(d:AQ):i_ d=[.int .i64 d.heads,.int .i64 d.turn,.list d.zn (HF d.zones),.int .i64 d.hskew,.int .i64 d.cskew,.int .i64 d.hlo,.int .i64 d.hhi,.int .i64 d.clo,.int .i64 d.chi]:=rfl
theorem Aw(d:AQ):K8 d=.agg (i_ d):=rfl
def Oe(n lo hi:Int):Bool:=decide (lo<=n/\n<=hi)
theorem Ft{n lo hi:Int}:Oe n lo hi=true↔lo<=n/\n<=hi:=by simp[Oe]
theorem k_{α:Type}[Inhabited α]{l:List α}{i:Nat}(h:i<l.length):l[i]?.getD default∈l:=by
 rw[aa h];exact ck h
theorem N5{α:Type}[Inhabited α]{l:List α}{p:α->Bool}:l.all p=true↔∀(j:Nat),j<l.length->p (l[j]?.getD default)=true:=by
 rw[List.all_eq_true];constructor
 ·intro h j e;exact h _ (k_ e)
 ·intro h x hx;obtain⟨j,e,rfl⟩:=cp hx;have:=h j e;rwa [aa e,Option.getD_some]at this
theorem r0{α:Type}[Inhabited α]{l:List α}{p:α->Bool}{j:Nat}(e:j<l.length)(h:p (l[j]?.getD default)=false):l.all p=false:=by
 cases ha:l.all p with
 |false=>rfl
 |true=>rw[N5.1 ha j e]at h;cases h
def Ld(l h:Int):Bool:=decide (0<=l/\l<=h/\h<=2000)
theorem eP{l h:Int}:Ld l h=true↔0<=l/\l<=h/\h<=2000:=by simp[Ld]
def GI(t:Int)(z:Zp):Bool:=Oe z.1 1 20 && Oe z.2 1 16 && decide (t.tmod z.2=0)
theorem d0{t:Int}{z:Zp}:GI t z=true↔(1<=z.1/\z.1<=20)/\(1<=z.2/\z.2<=16)/\t.tmod z.2=0:=by simp[GI,Ft];omega
def AQ.head(d:AQ):Bool:=Oe d.heads 1 4 && (Oe d.turn 1 1000 && (Oe d.zones.length 1 4 && (Oe d.hskew 0 (d.turn-1) && Oe d.cskew 0 (d.turn-1))))
def AQ.ok(d:AQ):Bool:=d.head && (Ld d.hlo d.hhi && Ld d.clo d.chi) && d.zones.all (GI d.turn)
def AQ.check(d:AQ):Int:=if d.ok then 0 else 10
theorem AQ.head_iff{d:AQ}:d.head=true↔(1<=d.heads/\d.heads<=4)/\(1<=d.turn/\d.turn<=1000)/\(1<=(d.zones.length:Int)/\(d.zones.length:Int)<=4)/\(0<=d.hskew/\d.hskew<=d.turn-1)/\(0<=d.cskew/\d.cskew<=d.turn-1):=by
 simp[AQ.head,Ft]
theorem AQ.ok_iff{d:AQ}:d.ok=true↔d.head=true/\(0<=d.hlo/\d.hlo<=d.hhi/\d.hhi<=2000)/\(0<=d.clo/\d.clo<=d.chi/\d.chi<=2000)/\d.zones.all (GI d.turn)=true:=by
 simp[AQ.ok,eP,and_assoc]
def AQ.secs(d:AQ):List Int:=d.zones.flatMap fun z=>cw z.1.toNat z.2
def AQ.cyls(d:AQ):Nat:=d.secs.length
def AQ.nt(d:AQ):Nat:=d.cyls*d.heads.toNat
def AQ.tc(d:AQ)(k:Nat):Int:=((k/d.heads.toNat:Nat):Int)
def AQ.th(d:AQ)(k:Nat):Int:=((k%d.heads.toNat:Nat):Int)
def AQ.ts(d:AQ)(k:Nat):Int:=d.secs[k/d.heads.toNat]?.getD 0
def AQ.tf(d:AQ):Nat->Int
 |0=>0
 |k+1=>d.tf k+d.ts k
def AQ.to(d:AQ):Nat->Int
 |0=>0
 |k+1=>(d.to k+(if d.th k=d.heads-1 then d.cskew else d.hskew))%d.turn
def AQ.size(d:AQ):Int:=d.tf d.nt
def AQ.base(d:AQ):Nat->Nat
 |0=>0
 |i+1=>d.base i+(d.zones[i]?.getD default).1.toNat
structure QW where
 cyl:Int
 head:Int
 sec:Int
 first:Int
 off:Int
def eH(t:QW):List D:=[.int .i64 t.cyl,.int .i64 t.head,.int .i64 t.sec,.int .i64 t.first,.int .i64 t.off]
def U5(t:QW):D:=.agg (eH t)
theorem SS(t:QW):eH t=[.int .i64 t.cyl,.int .i64 t.head,.int .i64 t.sec,.int .i64 t.first,.int .i64 t.off]:=rfl
theorem SR(t:QW):U5 t=.agg (eH t):=rfl
def AQ.track(d:AQ)(k:Nat):QW:=⟨d.tc k,d.th k,d.ts k,d.tf k,d.to k⟩
def AQ.tracks(d:AQ):List (List D):=(az d.nt).map fun k=>[U5 (d.track k)]
theorem U4(d:AQ):d.tracks.length=d.nt:=by simp[AQ.tracks]
theorem eG{d:AQ}{k:Nat}{ds:List D}(h:d.tracks[k]?=some ds):k<d.nt/\ds=[U5 (d.track k)]:=by
 unfold AQ.tracks at h;rw[c8]at h
 by_cases hk:k<d.nt
 ·rw[aa (by simpa using hk)]at h;simp at h;exact⟨hk,h.symm⟩
 ·rw[List.getElem?_eq_none (by simpa using hk)]at h;cases h
theorem jf{d:AQ}{k:Nat}(hk:k<d.nt):d.tracks[k]?=some [U5 (d.track k)]:=by
 unfold AQ.tracks;rw[c8,aa (by simpa using hk)];simp
theorem qX(zs:List Zp)(i j:Nat)(hi:i<zs.length)(e:j<(zs[i]?.getD default).1.toNat)(b:Nat)(hb:b=((zs.take i).map fun z=>z.1.toNat).sum) :
  (zs.flatMap fun z=>cw z.1.toNat z.2)[b+j]?=some (zs[i]?.getD default).2:=by
 induction zs generalizing i b with
 |nil=>simp at hi
 |cons z zs ih =>
  cases i with
  |zero =>
   simp at hb e;subst hb;rw[ea,List.getElem?_append_left (by simpa using e)];simp[e]
  |succ i =>
   simp at hi
   replace e:j<(zs[i]?.getD default).1.toNat:=by simpa using e
   rw[List.take_succ_cons,List.map_cons,List.sum_cons]at hb;subst hb;rw[ea,List.getElem?_append_right (by simp;omega)];simp only[List.length_replicate];rw[show z.1.toNat+((zs.take i).map fun z=>z.1.toNat).sum+j-z.1.toNat=((zs.take i).map fun z=>z.1.toNat).sum+j by omega];simpa using ih i hi e _ rfl
theorem Zi(d:AQ):∀i,i<=d.zones.length->d.base i=((d.zones.take i).map fun z=>z.1.toNat).sum
 |0,_=>by simp[AQ.base]
 |i+1,h=>by
  rw[AQ.base,Zi d i (by omega),List.take_add_one];have:d.zones[i]?=some (d.zones[i]?.getD default):=by rw[aa (by omega)];rfl
  rw[this];simp
theorem iI(d:AQ)(i j:Nat)(hi:i<d.zones.length)(e:j<(d.zones[i]?.getD default).1.toNat):d.secs[d.base i+j]?=some (d.zones[i]?.getD default).2 :=
 qX d.zones i j hi e _ (Zi d i (by omega))
theorem N3(d:AQ):d.base d.zones.length=d.cyls:=by
 rw[Zi d _ (ax _),List.take_length,AQ.cyls,AQ.secs,List.length_flatMap];simp
theorem jI(d:AQ):∀i j,i<=j->d.base i<=d.base j
 |i,j,h=>by
  induction j with
  |zero =>
     have:i=0:=by omega
     subst this;exact ax _
  |succ j ih =>
   rcases Nat.lt_or_ge i (j+1)with h1|h1
   ·have:=ih (by omega);rw[AQ.base];omega
   ·have:i=j+1:=by omega
    subst this;exact ax _
structure AQ.Good (d:AQ):Prop where
 h1:1<=d.heads
 h2:d.heads<=4
 t1:1<=d.turn
 t2:d.turn<=1000
 z1:1<=d.zones.length
 z2:d.zones.length<=4
 k1:0<=d.hskew
 k2:d.hskew<d.turn
 c1:0<=d.cskew
 c2:d.cskew<d.turn
 s1:0<=d.hlo
 s2:d.hlo<=d.hhi
 s3:d.hhi<=2000
 s4:0<=d.clo
 s5:d.clo<=d.chi
 s6:d.chi<=2000
 z:∀i,i<d.zones.length->1<=(d.zones[i]?.getD default).1/\(d.zones[i]?.getD default).1<=20/\1<=(d.zones[i]?.getD default).2/\(d.zones[i]?.getD default).2<=16/\d.turn.tmod (d.zones[i]?.getD default).2=0
theorem FQ{d:AQ}(h:d.ok=true):d.Good:=by
 obtain⟨h1,h2,l,j⟩:=AQ.ok_iff.1 h;obtain⟨a,b,c,e,f⟩:=AQ.head_iff.1 h1;refine⟨by omega,by omega,by omega,by omega,by omega,by omega,by omega,by omega,by omega,by omega,by omega,by omega,by omega,by omega,by omega,by omega,fun i hi=>?_⟩;have:=d0.1 (N5.1 j i hi);omega
section
variable {d:AQ}(g:d.Good)
theorem AQ.Good.hn(g:d.Good):((d.heads.toNat:Nat):Int)=d.heads:=by have:=g.h1;omega
theorem AQ.Good.hp(g:d.Good):0<d.heads.toNat:=by have:=g.h1;omega
theorem AQ.Good.secs(g:d.Good){x:Int}(hx:x∈d.secs):1<=x/\x<=16/\d.turn.tmod x=0:=by
 unfold AQ.secs at hx;obtain⟨z,e,hx⟩:=List.mem_flatMap.1 hx;have:=List.eq_of_mem_replicate hx;subst this;obtain⟨i,hi,rfl⟩:=cp e;have:=g.z i hi;rw[aa hi,Option.getD_some]at this;omega
theorem AQ.Good.base(g:d.Good):∀i,i<=d.zones.length->d.base i<=20*i
 |0,_=>by simp[AQ.base]
 |i+1,h=>by
  have:=AQ.Good.base g i (by omega);have:=g.z i (by omega);rw[AQ.base];omega
theorem AQ.Good.cyls(g:d.Good):d.cyls<=80:=by
 have:=g.base d.zones.length (ax _);rw[N3]at this;have:=g.z2;omega
theorem lz(n H C:Nat)(hk:n<C*H):n/H<C:=Nat.div_lt_of_lt_mul (by rw[ay];exact hk)
theorem AQ.Good.ts(g:d.Good){k:Nat}(hk:k<d.nt):1<=d.ts k/\d.ts k<=16/\d.turn.tmod (d.ts k)=0:=by
 have h1:k/d.heads.toNat<d.secs.length:=lz _ _ _ hk;unfold AQ.ts;rw[aa h1];exact g.secs (ck h1)
theorem AQ.Good.tf(g:d.Good):∀k,k<=d.nt->(k:Int)<=d.tf k/\d.tf k<=16*k
 |0,_=>by simp[AQ.tf]
 |k+1,h=>by
  have h1:=AQ.Good.tf g k (by omega);have h2:=g.ts (k:=k) (by omega);rw[AQ.tf];omega
theorem AQ.Good.nt(g:d.Good):d.nt<=320:=by
 have h1:=g.cyls;have h2:=g.h2;unfold AQ.nt
 calc d.cyls*d.heads.toNat<=80*4:=Nat.mul_le_mul h1 (by omega)
  _=320:=rfl
theorem AQ.Good.to(g:d.Good):∀k,0<=d.to k/\d.to k<d.turn
 |0=>by have:=g.t1;rw[AQ.to];omega
 |k+1=>by
  have:=g.t1;rw[AQ.to];exact⟨Int.emod_nonneg _ (by omega),Int.emod_lt_of_pos _ (by omega)⟩
theorem AAJ(c h:Nat)(hh:h<d.heads.toNat):d.tc (c*d.heads.toNat+h)=c:=by
 unfold AQ.tc;rw[ay,eb (by omega),et hh];simp
theorem AAI(c h:Nat)(hh:h<d.heads.toNat):d.th (c*d.heads.toNat+h)=h:=by
 unfold AQ.th;rw[ay,Nat.mul_add_mod,Nat.mod_eq_of_lt hh]
theorem xC(c h:Nat)(hh:h<d.heads.toNat):d.ts (c*d.heads.toNat+h)=d.secs[c]?.getD 0:=by
 unfold AQ.ts;rw[ay,eb (by omega),et hh];simp
end
def AQ.holds(d:AQ)(n:Int)(k:Nat):Prop:=d.tf k<=n/\n<d.tf k+d.ts k
instance (d:AQ) (n:Int) (k:Nat):Decidable (d.holds n k):=by unfold AQ.holds;infer_instance
def AQ.kOf(d:AQ)(n:Int):Option Nat:=(az d.nt).find? fun k=>decide (d.holds n k)
def AQ.isAt(d:AQ)(c h s:Int)(k:Nat):Prop:=(d.tc k=c/\d.th k=h)/\0<=s/\s<=d.ts k-1
instance (d:AQ) (c h s:Int) (k:Nat):Decidable (d.isAt c h s k):=by unfold AQ.isAt;infer_instance
def AQ.kAt(d:AQ)(c h s:Int):Option Nat:=(az d.nt).find? fun k=>decide (d.isAt c h s k)
def w_:QW:=⟨0,0,0,0,0⟩
def AQ.find(d:AQ)(n:Int):QW×Int:=if d.ok then(match d.kOf n with|some k=>(d.track k,0)|none=>(w_,1))else(w_,10)
def AQ.number(d:AQ)(c h s:Int):Int×Int:=if d.ok then(match d.kAt c h s with|some k=>(d.tf k+s,0)|none=>(0,1))else(0,10)
end Go.Pw

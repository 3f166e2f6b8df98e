/- A part of the proof. -/
import Derived.Test.YtpcpcjbbdgmohaaGreatQuZonesF
import Derived.Test.YtpcpcjbbdgmohaaGreatZonesSpec4
import Derived.Test.YtpcpcjbbdgmohaaGreatTkA
set_option linter.all false
namespace Go.Pw
structure Kz where
 fr:Int
 cnt:Int
 at':Int
 due:Int
 ord:Bool
deriving Inhabited
structure GQ where
 d:AG
 cyl:Int
 pas:Int
 nls:Bool
 sk:List Zp
 nlr:Bool
 rq:List Kz
def gA (r:Kz):List D:=[.int .i64 r.fr,.int .i64 r.cnt,.int .i64 r.at',.int .i64 r.due,.bool r.ord]
def f_ (r:Kz):D:=.agg (gA r)
theorem Bo (r:Kz):gA r=[.int .i64 r.fr,.int .i64 r.cnt,.int .i64 r.at',.int .i64 r.due,.bool r.ord]:=rfl
theorem Bn (r:Kz):f_ r=.agg (gA r):=rfl
def M4 (l:List Kz):List D:=l.map f_
theorem AL (l:List Kz):(M4 l).length=l.length:=by simp[M4]
theorem Az (l:List Kz):Ci 5 (M4 l)=True:=J7 fun _=>rfl
theorem Av {l:List Kz}{i:Nat}{A:D->Prop}:Ax (M4 l)[i]? A=(i<l.length/\A (f_ (l[i]?.getD default))):=HA
def XV (q:GQ):List D:=[.int .i64 q.d.heads,.int .i64 q.d.turn,.list q.d.zn (FJ q.d.zones),.int .i64 q.d.hskew,.int .i64 q.d.cskew,.int .i64 q.d.hlo,.int .i64 q.d.hhi,.int .i64 q.d.clo,.int .i64 q.d.chi,.int .i64 q.cyl,.int .i64 q.pas,.list q.nls (FJ q.sk),.list q.nlr (M4 q.rq)]
def Hy (q:GQ):D:=.agg (XV q)
theorem AN (q:GQ):XV q=[.int .i64 q.d.heads,.int .i64 q.d.turn,.list q.d.zn (FJ q.d.zones),.int .i64 q.d.hskew,.int .i64 q.d.cskew,.int .i64 q.d.hlo,.int .i64 q.d.hhi,.int .i64 q.d.clo,.int .i64 q.d.chi,.int .i64 q.cyl,.int .i64 q.pas,.list q.nls (FJ q.sk),.list q.nlr (M4 q.rq)]:=rfl
theorem Ai (q:GQ):Hy q=.agg (XV q):=rfl
def GQ.hOk (q:GQ):Bool:=FR q.cyl 0 (q.d.cyls-1) && (decide (q.sk.length=q.d.cyls) && (decide (q.rq.length<=6) && FR q.pas 0 6))
def VO (p:Zp):Bool:=decide (0<=p.1) && (decide (p.1<=p.2) && decide (p.2<=5000))
theorem Qp {p:Zp}:VO p=true↔0<=p.1/\p.1<=p.2/\p.2<=5000:=by simp[VO]
def AG.inRun (d:AG) (a c:Int):Bool:=decide ((0<=a/\1<=c)/\a+c<=d.size)
def GQ.rOk (q:GQ) (i:Nat):Bool:=q.d.inRun (q.rq[i]?.getD default).fr (q.rq[i]?.getD default).cnt && (FR (q.rq[i]?.getD default).at' 0 10000 && (FR (q.rq[i]?.getD default).due (-1) 100000 && (decide (i=0) || decide ((q.rq[i-1]?.getD default).at'<=(q.rq[i]?.getD default).at'))))
def GQ.ok (q:GQ):Bool:=q.hOk && (q.sk.all VO && (List.range q.rq.length).all q.rOk)
def GQ.check (q:GQ):Int:=if q.d.ok then (if q.ok then 0 else 70) else 10
structure GQ.Good (q:GQ):Prop where
 d:q.d.ok=true
 cyl:0<=q.cyl/\q.cyl<=q.d.cyls-1
 sl:q.sk.length=q.d.cyls
 rl:q.rq.length<=6
 pas:0<=q.pas/\q.pas<=6
 sk:∀i,i<q.sk.length->0<=(q.sk[i]?.getD default).1/\(q.sk[i]?.getD default).1<=(q.sk[i]?.getD default).2/\(q.sk[i]?.getD default).2<=5000
 run:∀i,i<q.rq.length->(0<=(q.rq[i]?.getD default).fr/\1<=(q.rq[i]?.getD default).cnt)/\(q.rq[i]?.getD default).fr+(q.rq[i]?.getD default).cnt<=q.d.size
 at':∀i,i<q.rq.length->0<=(q.rq[i]?.getD default).at'/\(q.rq[i]?.getD default).at'<=10000
 due:∀i,i<q.rq.length->-1<=(q.rq[i]?.getD default).due/\(q.rq[i]?.getD default).due<=100000
 srt:∀i,i+1<q.rq.length->(q.rq[i]?.getD default).at'<=(q.rq[i+1]?.getD default).at'
theorem dA {q:GQ}(h:q.check=0):q.Good:=by
 unfold GQ.check at h
 split at h
 ·rename_i hd
  split at h
  ·rename_i ho
   unfold GQ.ok GQ.hOk at ho
   simp only[Bool.and_eq_true,Di,decide_eq_true_eq] at ho
   obtain⟨⟨h1,h2,h3,h4⟩,h5,h6⟩:=ho
   have hr:∀i,i<q.rq.length->q.rOk i=true:=fun i hi=>List.all_eq_true.1 h6 i (List.mem_range.2 hi)
   refine⟨hd,h1,h2,h3,h4,fun i hi=>Qp.1 (Ie.1 h5 i hi),fun i hi=>?_,fun i hi=>?_,fun i hi=>?_,fun i hi=>?_⟩
   ·have:=hr i hi
    unfold GQ.rOk AG.inRun at this
    simp only[Bool.and_eq_true,decide_eq_true_eq] at this
    exact this.1
   ·have:=hr i hi
    unfold GQ.rOk at this
    simp only[Bool.and_eq_true,Di] at this
    exact this.2.1
   ·have:=hr i hi
    unfold GQ.rOk at this
    simp only[Bool.and_eq_true,Di] at this
    exact this.2.2.1
   ·have:=hr (i+1) hi
    unfold GQ.rOk at this
    simp only[Bool.and_eq_true,Bool.or_eq_true,decide_eq_true_eq,Nat.add_sub_cancel] at this
    exact this.2.2.2.resolve_left (by omega)
  ·cases h
 ·cases h
def pick (hi:Bool) (p:Zp):Int:=if hi then p.2 else p.1
def Ok (a b:Int):Int:=max (a-b) (b-a)
theorem Y9 {a b n:Int}(ha:0<=a/\a<n) (hb:0<=b/\b<n):0<=Ok a b/\Ok a b<n:=by unfold Ok;omega
def Ws (T ang t:Int):Int:=t+(ang-t)%T
theorem Wv {T ang t:Int}(hT:0<T):t<=Ws T ang t/\Ws T ang t<t+T:=by
 have:=Int.emod_nonneg (ang-t) (Int.ne_of_gt hT);have:=Int.emod_lt_of_pos (ang-t) hT
 unfold Ws;omega
theorem bk {T ang t u:Int}(hT:0<T) (h:t<=u):Ws T ang t<=Ws T ang u:=by
 have h1:=Int.emod_nonneg (ang-t) (Int.ne_of_gt hT);have h2:=Int.emod_lt_of_pos (ang-t) hT
 have h3:=Int.emod_nonneg (ang-u) (Int.ne_of_gt hT);have h4:=Int.emod_lt_of_pos (ang-u) hT
 have h5:=Int.emod_add_mul_ediv (ang-t) T
 have h6:=Int.emod_add_mul_ediv (ang-u) T
 unfold Ws
 obtain⟨p,hp⟩:∃p,(ang-t)/T=p:=⟨_,rfl⟩
 obtain⟨r,hr⟩:∃r,(ang-u)/T=r:=⟨_,rfl⟩
 rw[hp] at h5;rw[hr] at h6
 have hpr:r<=p:=by rw[←hp,←hr];exact Int.ediv_le_ediv hT (by omega)
 have hm:T*r<=T*p:=Int.mul_le_mul_of_nonneg_left hpr (by omega)
 omega
theorem fT {T ang t:Int}:t+(ang-t%T+T)%T=Ws T ang t:=by
 unfold Ws
 have:(ang-t%T+T)%T=(ang-t)%T:=by rw[Int.add_emod_right,Int.sub_emod,Int.emod_emod,←Int.sub_emod]
 omega
def GQ.first (q:GQ) (r:Kz):Int:=(q.d.pl r.fr).1
def GQ.last (q:GQ) (r:Kz):Int:=(q.d.pl (r.fr+r.cnt-1)).1
def GQ.serveT (q:GQ) (r:Kz) (t seek run:Int):Int:=Ws q.d.turn (q.d.angle r.fr).1 (max t r.at'+seek)+run
def GQ.serveV (q:GQ) (hi:Bool) (h:Int×Int) (r:Kz):Int×Int :=
 (q.last r,q.serveT r h.2 (pick hi (q.sk[(Ok (q.first r) h.1).toNat]?.getD default)) (pick hi (q.d.run r.fr r.cnt).1))
def GQ.req (q:GQ) (i:Int):Kz:=q.rq[i.toNat]?.getD default
def GQ.hds (q:GQ) (hi:Bool) (l:List Int):Nat->Int×Int
 |0=>(q.cyl,0)
 |n+1=>q.serveV hi (q.hds hi l n) (q.req (l[n]?.getD 0))
def GQ.outN (q:GQ) (hi:Bool) (l:List Int):Nat->List Int
 |0=>List.replicate q.rq.length 0
 |n+1=>(q.outN hi l n).set (l[n]?.getD 0).toNat (q.hds hi l (n+1)).2
theorem IQ (q:GQ) (hi:Bool) (l:List Int):∀n,(q.outN hi l n).length=q.rq.length
 |0=>by simp[GQ.outN]
 |n+1=>by rw[GQ.outN,List.length_set,IQ]
theorem PE {q:GQ}(hT:0<q.d.turn) {r:Kz}{t u s s' e e':Int}(h1:t<=u) (h2:s<=s') (h3:e<=e'):q.serveT r t s e<=q.serveT r u s' e':=by
 unfold GQ.serveT
 have:Ws q.d.turn (q.d.angle r.fr).1 (max t r.at'+s)<=Ws q.d.turn (q.d.angle r.fr).1 (max u r.at'+s'):=bk hT (by omega)
 omega
theorem Zf {q:GQ}(hT:0<q.d.turn) {r:Kz}{t s e:Int}:max t r.at'+s+e<=q.serveT r t s e/\q.serveT r t s e<max t r.at'+s+e+q.d.turn:=by
 unfold GQ.serveT
 have:=Wv (T:=q.d.turn) (ang:=(q.d.angle r.fr).1) (t:=max t r.at'+s) hT
 omega
theorem QR {t s k:Int}(ht:1<=t/\t<=1000) (hs:0<=s/\s<t) (hk:0<=k/\k<=2000):0<=De t s k/\De t s k<=3000:=by
 unfold De Fe
 split
 ·omega
 ·have h1:=Int.emod_add_mul_ediv (k-s+t-1) t
  have h2:=Int.emod_nonneg (k-s+t-1) (show t≠0 by omega)
  have h3:0<=(k-s+t-1)/t:=Int.ediv_nonneg (by omega) (by omega)
  have h4:0<=(k-s+t-1)/t*t:=Int.mul_nonneg h3 (by omega)
  rw[Int.mul_comm] at h1
  omega
theorem TT {t s k l:Int}(ht:1<=t) (h:k<=l):De t s k<=De t s l:=by
 have h1:=Fv (t:=t) (skew:=s) (ticks:=k) (by omega)
 have h2:=Fv (t:=t) (skew:=s) (ticks:=l) (by omega)
 have h3:Fe t s k<=Fe t s l:=by
  apply Int.not_lt.1
  intro hlt
  have:=h1.2.2 _ hlt h2.1
  omega
 have h4:Fe t s k*t<=Fe t s l*t:=Int.mul_le_mul_of_nonneg_right h3 (by omega)
 unfold De;omega
theorem XP {d:AG}(h:d.ok=true) (hz:d.size<=200) {a c:Int}(hr:d.isRun a c):(d.run a c).2=0/\0<=(d.run a c).1.1/\(d.run a c).1.1<=(d.run a c).1.2/\(d.run a c).1.2<=2000000:=by
 have g:=Bu h
 have t1:=g.t1;have t2:=g.t2
 have hk:=AG.ok_iff.1 h
 have hh:=(AG.head_iff.1 hk.1).2.2.2
 unfold AG.run
 rw[if_pos h,if_pos hr]
 unfold AG.isRun at hr
 have hm:(c.toNat:Int)<=200:=by omega
 have b1:=Gc g a c.toNat
 have b2:=LH (d:=d) 1 a c.toNat
 have b3:=LH (d:=d) 2 a c.toNat
 have l1:=QR (t:=d.turn) (s:=d.hskew) (k:=d.hlo) ⟨t1,t2⟩ (by omega) (by omega)
 have l2:=QR (t:=d.turn) (s:=d.hskew) (k:=d.hhi) ⟨t1,t2⟩ (by omega) (by omega)
 have l3:=QR (t:=d.turn) (s:=d.cskew) (k:=d.clo) ⟨t1,t2⟩ (by omega) (by omega)
 have l4:=QR (t:=d.turn) (s:=d.cskew) (k:=d.chi) ⟨t1,t2⟩ (by omega) (by omega)
 have m1:=TT (t:=d.turn) (s:=d.hskew) t1 hk.2.1.2.1
 have m2:=TT (t:=d.turn) (s:=d.cskew) t1 hk.2.2.1.2.1
 have n1:=Int.mul_le_mul_of_nonneg_right m1 b2.1
 have n2:=Int.mul_le_mul_of_nonneg_right m2 b3.1
 have p1:0<=De d.turn d.hskew d.hlo*d.swR 1 a c.toNat:=Int.mul_nonneg l1.1 b2.1
 have p2:0<=De d.turn d.cskew d.clo*d.swR 2 a c.toNat:=Int.mul_nonneg l3.1 b3.1
 have q1:De d.turn d.hskew d.hhi*d.swR 1 a c.toNat<=3000*200:=Int.mul_le_mul l2.2 (by omega) b2.1 (by omega)
 have q2:De d.turn d.cskew d.chi*d.swR 2 a c.toNat<=3000*200:=Int.mul_le_mul l4.2 (by omega) b3.1 (by omega)
 have r1:(c.toNat:Int)*1000<=200*1000:=by omega
 unfold AG.low AG.high
 refine⟨rfl,?_,?_,?_⟩<;>simp only[]<;>omega
end Go.Pw

/- A part of the proof. -/
import Derived.Test.YtpcpcjbbdgmohaaGreatTkA
import Derived.Test.YtpcpcjbbdgmohaaGreatPgQsB
import Derived.Test.YtpcpcjbbdgmohaaGreatPgQuTkH
set_option linter.all false
section
namespace Go.Pw
theorem bq {l:List Bv}{cl:Nat}{v w:Int}{x:Bv}(h:Cv (EW l cl v) x=some w):w=v:=by
 obtain⟨e,he,_,h2⟩:=Et h
 rw[←h2];exact(EV he).1
theorem Q5 {a:A1}{K:List BT}:∀(f:Nat) {n:Int}{es:List BT}{cl:Nat},(∀x,Cv es x=some 0->CI K x=true)->1<=n->∀x,Cv (KK a f n es cl).1 x=some 0->CI K x=true
 |0,n,es,cl,h,_=>h
 |f+1,n,es,cl,h,hn=>by
  rw[KK]
  split
  ·exact h
  ·refine Q5 f (fun x hx=>?_) (by omega)
   rw[J6] at hx
   cases hv:Cv es x with
   |some v=>rw[hv] at hx;simp at hx;subst hx;exact h x hv
   |none=>rw[hv] at hx;simp at hx;have:=bq hx;omega
theorem Zu (a:A1) (p:Bv->Bool) {x:Bv}(h:Cv (GA a p).1 x=some 0):CI (E2 a p) x=true :=
 Q5 _ (fun x hx=>by unfold CI;rw[hx];rfl) (Int.le_refl 1) x h
theorem Zk {a:A1}{p:Bv->Bool}{s:Bv}{n:Int}(hs:Cv (GA a p).1 s=some n) {ks:List Int}(hk:∀i,i<ks.length->-a.shake<=ks[i]?.getD 0/\ks[i]?.getD 0<=a.shake) (hn:n=ks.length) :
  CI (E2 a p) (M3 a (GA a p).1 s ks ks.length)=true/\a.has (M3 a (GA a p).1 s ks ks.length)=true:=by
 obtain⟨m,hg⟩:=S_ a p
 obtain⟨v,h1,h2,h3⟩:=UH hg hs hk ks.length (Nat.le_refl _)
 have:v=0:=by omega
 subst this
 exact⟨Zu a p h1,(Ye hg h1).1⟩
def iy (T:Nat->Nat->Int) (K:Int) (l:List (Int×Int)) (at' to:Nat):List (Int×Int) :=
 let v:=T at' to*K
 let far:=(at'-to)+(to-at')
 let m:=if at'=0 then l.set far (v,v) else l
 m.set far (min (m[far]?.getD default).1 v,max (m[far]?.getD default).2 v)
def UI (T:Nat->Nat->Int) (K:Int) (at':Nat):Nat->List (Int×Int)->List (Int×Int)
 |0,l=>l
 |to+1,l=>iy T K (UI T K at' to l) at' to
def Li (T:Nat->Nat->Int) (K:Int) (n:Nat):Nat->List (Int×Int)
 |0=>List.replicate n (0,0)
 |a+1=>UI T K a n (Li T K n a)
theorem Yg (T K l a t):(iy T K l a t).length=l.length:=by unfold iy;simp only[List.length_set];split<;>simp
theorem Qs (T K a):∀t l,(UI T K a t l).length=l.length
 |0,l=>rfl
 |t+1,l=>by rw[UI,Yg,Qs]
theorem Rs (T K n):∀a,(Li T K n a).length=n
 |0=>by simp[Li]
 |a+1=>by rw[Li,Qs,Rs]
structure l_ (T:Nat->Nat->Int) (K:Int) (n a t:Nat) (l:List (Int×Int)):Prop where
 len:l.length=n
 h:∀i j,i<n->j<n->i<a\/(i=a/\j<t)->(l[(i-j)+(j-i)]?.getD default).1<=T i j*K/\T i j*K<=(l[(i-j)+(j-i)]?.getD default).2
theorem Ng {α:Type} [Inhabited α] {l:List α}{i j:Nat}{x:α}(h:i≠j):(l.set i x)[j]?.getD default=l[j]?.getD default:=by rw[List.getElem?_set_ne h]
theorem Kl {α:Type} [Inhabited α] {l:List α}{i:Nat}{x:α}(h:i<l.length):(l.set i x)[i]?.getD default=x:=by rw[List.getElem?_set_self h];rfl
theorem jY {T:Nat->Nat->Int}{K:Int}{n a t:Nat}{l:List (Int×Int)}(h:l_ T K n a t l) (ha:a<n) (ht:t<n):l_ T K n a (t+1) (iy T K l a t) where
 len:=by rw[Yg,h.len]
 h:=fun i j hi hj hc=>by
  have hf:(a-t)+(t-a)<l.length:=by rw[h.len];omega
  obtain⟨far,hfar⟩:∃far,(a-t)+(t-a)=far:=⟨_,rfl⟩
  obtain⟨m,hm⟩:∃m,(if a=0 then l.set far (T a t*K,T a t*K) else l)=m:=⟨_,rfl⟩
  have hml:m.length=l.length:=by rw[←hm];split<;>simp
  have hup:iy T K l a t=m.set far (min (m[far]?.getD default).1 (T a t*K),max (m[far]?.getD default).2 (T a t*K)):=by unfold iy;simp only[hfar,hm]
  have hold:(i<a\/(i=a/\j<t))->(m[(i-j)+(j-i)]?.getD default).1<=T i j*K/\T i j*K<=(m[(i-j)+(j-i)]?.getD default).2:=fun hc=>by
   have h0:=h.h i j hi hj hc
   rw[←hm]
   split
   ·rename_i hz
    have hij:far≠(i-j)+(j-i):=by omega
    rw[Ng hij];exact h0
   ·exact h0
  rw[hup]
  by_cases hij:(i-j)+(j-i)=far
  ·rw[hij,Kl (by omega)]
   by_cases hnew:i=a/\j=t
   ·obtain⟨rfl,rfl⟩:=hnew
    simp only[];omega
   ·have:=hold (by omega)
    rw[hij] at this
    simp only[];omega
  ·rw[Ng (Ne.symm hij)]
   exact hold (by
    have:¬(i=a/\j=t):=fun hh=>hij (by rw[hh.1,hh.2];exact hfar)
    omega)
theorem Yq {T:Nat->Nat->Int}{K:Int}{n a:Nat}{l:List (Int×Int)}(h:l_ T K n a 0 l) (ha:a<n):∀t,t<=n->l_ T K n a t (UI T K a t l)
 |0,_=>h
 |t+1,ht=>by rw[UI];exact jY (Yq h ha t (by omega)) ha (by omega)
theorem Yr (T:Nat->Nat->Int) (K:Int) (n:Nat):∀a,a<=n->l_ T K n a 0 (Li T K n a)
 |0,_=>⟨by simp[Li],fun i j _ _ hc=>by omega⟩
 |a+1,ha=>by
  have h:=Yq (Yr T K n a (by omega)) (by omega) n (Nat.le_refl _)
  rw[Li]
  exact⟨h.len,fun i j hi hj hc=>h.h i j hi hj (by omega)⟩
theorem jZ (T:Nat->Nat->Int) (K:Int) (n i j:Nat) (hi:i<n) (hj:j<n):((Li T K n n)[(i-j)+(j-i)]?.getD default).1<=T i j*K/\T i j*K<=((Li T K n n)[(i-j)+(j-i)]?.getD default).2 :=
 (Yr T K n n (Nat.le_refl _)).h i j hi hj (.inl hi)
end Go.Pw
end
section
open Go Go.Pw Go.Proofs
namespace Go.Pw
set_option maxRecDepth 100000
set_option maxHeartbeats 3200000
def Fq (a:A1) (i t:Nat):Int:=(Cv (Ew a t) ⟨(i:Int),0⟩).getD (-1)
def NS (f:Nat->Nat->Int) (m p:Nat):Bool×List D:=(decide (m=0),Bs ((List.range m).map (f p)))
abbrev mU (n:Nat):List (Bool×List D):=List.replicate n (true,[])
theorem Vp (f:Nat->Nat->Int) (m p:Nat):H9 (NS f m p)=true:=by
 cases m with
 |zero=>rfl
 |succ m=>exact Kw (by simp[NS,FQ])
theorem kL (f:Nat->Nat->Int) (m p:Nat):(false,(NS f m p).2++[.int .i64 (f p m)])=NS f (m+1) p:=by
 simp[NS,List.range_succ,TQ]
structure TI (f:Nat->Nat->Int) (n m k:Nat) (ix:List Nat) (rows:List (Bool×List D)):Prop where
 len:ix.length=n
 inj:∀p r,p<n->r<n->ix[p]?.getD 0=ix[r]?.getD 0->p=r
 row:∀p,p<n->rows[ix[p]?.getD 0]?=some (NS f (if p<k then m+1 else m) p)
theorem mH (f:Nat->Nat->Int) (n:Nat):TI f n 0 0 (List.range n) (List.replicate n (true,[])) where
 len:=by simp
 inj:=fun p r hp hr h=>by simpa[hp,hr] using h
 row:=fun p hp=>by simp[hp,NS,Bs]
theorem lH {f n m k ix rows} (h:TI f n m k ix rows) (hk:k<n):TI f n m (k+1) (ix.set k rows.length) (rows.set (ix[k]?.getD 0) (false,[])++[NS f (m+1) k]) where
 len:=by rw[List.length_set];exact h.len
 inj:=fun p r hp hr he=>by
  have hlt:∀p,p<n->ix[p]?.getD 0<rows.length:=fun p hp=>(List.getElem?_eq_some_iff.1 (h.row p hp)).1
  by_cases h1:p=k<;>by_cases h2:r=k
  ·omega
  ·subst h1
   rw[List.getElem?_set_self (by rw[h.len];exact hk),List.getElem?_set_ne (Ne.symm h2)] at he
   have:=hlt r hr;simp at he;omega
  ·subst h2
   rw[List.getElem?_set_self (by rw[h.len];exact hk),List.getElem?_set_ne (Ne.symm h1)] at he
   have:=hlt p hp;simp at he;omega
  ·rw[List.getElem?_set_ne (Ne.symm h1),List.getElem?_set_ne (Ne.symm h2)] at he
   exact h.inj p r hp hr he
 row:=fun p hp=>by
  by_cases h1:p=k
  ·subst h1
   rw[List.getElem?_set_self (by rw[h.len];exact hk),if_pos (by omega)]
   simp
  ·rw[List.getElem?_set_ne (Ne.symm h1)]
   have hr:=h.row p hp
   have hlt:=(List.getElem?_eq_some_iff.1 hr).1
   rw[List.getElem?_append_left (by simpa using hlt),List.getElem?_set_ne (fun he=>h1 (h.inj p k hp hk he.symm)),hr]
   congr 2
   by_cases h2:p<k
   ·rw[if_pos h2,if_pos (by omega)]
   ·rw[if_neg h2,if_neg (by omega)]
theorem jK {f n m ix rows} (h:TI f n m n ix rows):TI f n (m+1) 0 ix rows where
 len:=h.len
 inj:=h.inj
 row:=fun p hp=>by rw[h.row p hp,if_pos hp,if_neg (by omega)]
def Tx (f:Nat->Nat->Int) (n m:Nat):List D:=(List.range n).map fun p=>.list (NS f m p).1 (NS f m p).2
theorem fe {f n m ix rows} (h:TI f n m 0 ix rows):I9 ix rows=Tx f n m/\Sf ix rows=true:=by
 constructor
 ·unfold I9 Tx
  apply List.ext_getElem
  ·simp[h.len]
  ·intro i h1 h2
   have hi:i<n:=by simpa using h2
   have hr:=h.row i hi
   have hx:ix[i]?.getD 0=ix[i]'(by rw[h.len];exact hi):=by rw[List.getElem?_eq_getElem (by rw[h.len];exact hi)];rfl
   rw[hx,if_neg (by omega)] at hr
   simp[hr]
 ·unfold Sf
  rw[List.all_eq_true]
  intro j hj
  obtain⟨i,hi,rfl⟩:=List.getElem_of_mem hj
  have hr:=h.row i (by rw[←h.len];exact hi)
  have hx:ix[i]?.getD 0=ix[i]:=by rw[List.getElem?_eq_getElem hi];rfl
  rw[hx,if_neg (by omega)] at hr
  rw[hr];exact Vp f m i
theorem Zq (n:Nat):(∀x,x∈List.replicate n (D.list true [])->x=D.list true [])=True:=by simp
attribute [local congr] DX B3 B4 Bc DZ Bj Bl Bk Bb BN BF A6 Be BG Bg CD CE CF Cd Ce B9 Bf BL Bi BM B8 Cf BK CB CC B_ B6 B7 B2 DY B5 Bd BI BH BJ Bh CA
attribute [local irreducible] IntKind.wrap CK Option.getD and or
theorem Sb (a:A1) (g:a.Good) (hok:a.ok=true) (n:Nat) (hn:a.last+1=(n:Int)) (h11:n<=41):Ca E0 Pp [FW a] (.tup [.list false (Tx (Fq a) n n),.int .i64 0]):=by
 have c1:=H8 a
 rw[hok] at c1
 have w0:IntKind.i64.wrap (a.last+1)=(n:Int):=by rw[Ad _ (by omega)];exact hn
 refine AW ST Aq (by simp) fun hwf=>?_
 rw[AZ];unfold NH
 (try (simp -implicitDefEqProofs only[go_sem,Aa,AP,w0]));repeat' first|(with_reducible first|exact tI|refine aI ?_ ?_|intro _)|((first|with_reducible refine AU ?_ ?_<;>intro _|(with_reducible refine isCall ?_);first|refine AF c1 ?_)<;>try (simp -implicitDefEqProofs only[go_sem,Aa,AP,w0]))|simp (disch:=omega) only[Al]|((with_reducible refine Ba ?_);refine⟨(_,_,_),rfl,?_,?_⟩)
 all_goals first|omega|(simp<;>omega)|skip
 refine Ao (α:=Nat×((List Nat))×((List (Bool×List D)))) (l0:=?l1) (m0:=?m1) (fun x=>[(26,.d (.int .i64 (x.1:Int)))]) (fun x=>[(23,.mat 33 3 false x.2.1 x.2.2)]) (fun x=>x.1<=n/\TI (Fq a) n x.1 0 x.2.1 x.2.2) (fun x=>n-x.1) (0,(List.range n),(mU n)) ?h01 ?he1 ?he21 ?hI1 ?step1
 case h01=>(simp -implicitDefEqProofs only[go_sem,Zq,List.length_replicate];rfl)
 case he1=>rfl
 case he21=>rfl
 case' step1=>(rintro⟨i,ix,rows⟩ hI;try dsimp only at hI)
 case' hI1=>try dsimp only
 ·exact⟨by omega,mH _ n⟩
 ·obtain⟨h1,h2⟩:=hI
  by_cases hi:i<n
  ·have hi':(i:Int)<(n:Int):=by omega
   have wi:IntKind.i64.wrap ((i:Int)+1)=((i+1:Nat):Int):=by rw[Ad _ (by omega)];omega
   have cP:=Mm a g (i:Int)
   obtain⟨es,hes⟩:∃es,(GA a (Iy a (i:Int))).1=es:=⟨_,rfl⟩
   obtain⟨cl,hcl⟩:∃cl,(GA a (Iy a (i:Int))).2=cl:=⟨_,rfl⟩
   rw[hes,hcl] at cP
   rw[Aa,AP] at cP
   have hlen:=h2.len
   (try (simp -implicitDefEqProofs only[go_sem,hi']));repeat' first|(with_reducible first|exact tI|refine aI ?_ ?_|intro _)|((first|with_reducible refine AU ?_ ?_<;>intro _|(with_reducible refine isCall ?_);first|(refine H6 ([]) ([((5000017,0),(31,1))]) (cP) (by repeat' first|exact True.intro|exact rfl|refine And.intro ?_ ?_) (by simp[D7,EQ.get,Ae.ren,AV.ren,AV.ren.renL,AO.get,A7,CZ,Fd,AO.reach,AV.sites,AV.sites.sitesL,AO.osites]) (by simp[Db,IW,DW,EQ.get,Fd,DB,CN,F0,Eh]) (by rfl) (by simp only[FG,EQ.get,Ae.ren,AV.ren,AV.ren.renL,and_self,and_true,true_and,if_true,reduceIte];rfl) ?_))<;>try (simp -implicitDefEqProofs only[go_sem,hi']))|simp (disch:=omega) only[Al]|((with_reducible refine Ba ?_);refine⟨(_,_,_),rfl,?_,?_⟩)
   all_goals first|omega|(simp<;>omega)|skip
   refine Ao (α:=Nat×((List Nat))×((List (Bool×List D)))) (l0:=?l2) (m0:=?m2) (fun x=>[(34,.d (.int .i64 (x.1:Int)))]) (fun x=>[(23,.mat 33 3 false x.2.1 x.2.2)]) (fun x=>x.1<=n/\TI (Fq a) n i x.1 x.2.1 x.2.2) (fun x=>n-x.1) (0,ix,rows) ?h02 ?he2 ?he22 ?hI2 ?step2
   case h02=>(simp -implicitDefEqProofs only[go_sem];rfl)
   case he2=>rfl
   case he22=>rfl
   case' step2=>(rintro⟨k,jx,sows⟩ hI2;try dsimp only at hI2)
   case' hI2=>try dsimp only
   ·exact⟨by omega,h2⟩
   ·obtain⟨k1,k2⟩:=hI2
    have hjl:=k2.len
    by_cases hk:k<n
    ·have hk':(k:Int)<(jx.length:Int):=by omega
     have hk2:k<jx.length:=by omega
     have hrow:=k2.row k hk
     have hal:=Vp (Fq a) i k
     have hsn:=kL (Fq a) i k
     have hup:=lH k2 hk
     rw[if_neg (by omega)] at hrow
     rw[←hsn] at hup
     obtain⟨J,hJ⟩:∃J,jx[k]?.getD 0=J:=⟨_,rfl⟩
     rw[hJ] at hrow hup
     obtain⟨b,L,hm⟩:∃b L,NS (Fq a) i k=(b,L):=⟨_,_,rfl⟩
     rw[hm] at hrow hal hup
     have hL:L.length=i:=by have:=congrArg (·.2.length) hm;simpa[NS,Bs] using this.symm
     have hLu:Ci 1 L=True:=by have:=congrArg (·.2) hm;simp only[NS] at this;rw[←this];exact TP _
     have wk:IntKind.i64.wrap ((k:Int)+1)=((k+1:Nat):Int):=by rw[Ad _ (by omega)];omega
     have htv:Fq a k i=(Cv es ⟨(k:Int),0⟩).getD (-1):=by unfold Fq Ew;rw[hes]
     rw[htv] at hup
     have hty:=J8 ⟨(k:Int),0⟩
     rw[Ah,Af] at hty
     cases hv:Cv es ⟨(k:Int),0⟩ with
     |none =>
      have hl:=IT hv
      rw[←Fx,Ah,Af] at hl
      rw[hv,Option.getD_none] at hup
      (try (simp -implicitDefEqProofs only[go_sem,hk',hk2,hJ,hrow,hal,hL,hLu,wk,hl,hty]));repeat' first|(with_reducible first|exact tI|refine aI ?_ ?_|intro _)|((first|with_reducible refine AU ?_ ?_<;>intro _)<;>try (simp -implicitDefEqProofs only[go_sem,hk',hk2,hJ,hrow,hal,hL,hLu,wk,hl,hty]))|simp (disch:=omega) only[Al]|((with_reducible refine Ba ?_);refine⟨(_,_,_),rfl,?_,?_⟩)
      all_goals first|omega|rfl|exact .inl True.intro|exact hup|(simp;done)|trace_state
     |some v =>
      have hl:=IR hv
      rw[←Fx,Ah,Af] at hl
      rw[hv,Option.getD_some] at hup
      (try (simp -implicitDefEqProofs only[go_sem,hk',hk2,hJ,hrow,hal,hL,hLu,wk,hl,hty]));repeat' first|(with_reducible first|exact tI|refine aI ?_ ?_|intro _)|((first|with_reducible refine AU ?_ ?_<;>intro _)<;>try (simp -implicitDefEqProofs only[go_sem,hk',hk2,hJ,hrow,hal,hL,hLu,wk,hl,hty]))|simp (disch:=omega) only[Al]|((with_reducible refine Ba ?_);refine⟨(_,_,_),rfl,?_,?_⟩)
      all_goals first|omega|rfl|exact .inl True.intro|exact hup|(simp;done)|trace_state
    ·have hk':¬(k:Int)<(jx.length:Int):=by omega
     have hke:k=n:=by omega
     rw[hke] at k2
     have hc:=jK k2
     (try (simp -implicitDefEqProofs only[go_sem,hk',wi]));repeat' first|(with_reducible first|exact tI|refine aI ?_ ?_|intro _)|((first|with_reducible refine AU ?_ ?_<;>intro _)<;>try (simp -implicitDefEqProofs only[go_sem,hk',wi]))|simp (disch:=omega) only[Al]|((with_reducible refine Ba ?_);refine⟨(_,_,_),rfl,?_,?_⟩)
     all_goals first|omega|rfl|exact .inl True.intro|exact hc|trace_state
  ·have hi':¬(i:Int)<(n:Int):=by omega
   have hie:i=n:=by omega
   rw[hie] at h2
   obtain⟨m1,m2⟩:=fe h2
   (try (simp -implicitDefEqProofs only[go_sem,hi',m1,m2]));repeat' first|(with_reducible first|exact tI|refine aI ?_ ?_|intro _)|((first|with_reducible refine AU ?_ ?_<;>intro _)<;>try (simp -implicitDefEqProofs only[go_sem,hi',m1,m2]))|simp (disch:=omega) only[Al]|((with_reducible refine Ba ?_);refine⟨(_,_,_),rfl,?_,?_⟩)
   all_goals first|omega|rfl|exact .inl True.intro|trace_state
end Go.Pw
end
section
open Go Go.Pw Go.Proofs
namespace Go.Pw
set_option maxRecDepth 100000
set_option maxHeartbeats 3200000
def mK (a:A1) (es:D):List Bv->List (Nat×Nat×Ae)
 |[]=>[(5000003,0,.cells [.d es]),(5000005,0,.cells [.d (.list true [])])]
 |x::xs=>[(16,0,.row 63 2 false (H' (x::xs))),(5000003,0,.cells [.d es]),(5000005,0,.cells [.own 16 0])]
theorem O' (a:A1) (es:D):mK a es []=[(5000003,0,.cells [.d es]),(5000005,0,.cells [.d (.list true [])])]:=rfl
theorem Sv (a:A1) (es:D) (x:Bv) (xs:List Bv):mK a es (x::xs)=[(16,0,.row 63 2 false (H' (x::xs))),(5000003,0,.cells [.d es]),(5000005,0,.cells [.own 16 0])]:=rfl
theorem Zs (l:List Bv):Ln (H' l)=true:=LK (fun _=>rfl) l
def W9 (a:A1) (t:Int):List Bv:=a.spots.filter (CI (E2 a (Iy a t)))
attribute [local congr] DX B3 B4 Bc DZ Bj Bl Bk Bb BN BF A6 Be BG Bg CD CE CF Cd Ce B9 Bf BL Bi BM B8 Cf BK CB CC B_ B6 B7 B2 DY B5 Bd BI BH BJ Bh CA
attribute [local irreducible] IntKind.wrap CK Option.getD and or
theorem Rm (a:A1) (g:a.Good) (es:List BT):bg E0 It [FW a,.map Sp (Vs es)] 63 2 (a.spots.filter (CI es)).isEmpty (H' (a.spots.filter (CI es))):=by
 refine MR Mf Aq (by simp) fun hwf=>?_
 have cR:=H7 a g
 rw[AZ];unfold Hg
 (try (simp -implicitDefEqProofs only[go_sem,Aa,AP]));repeat' first|(with_reducible first|exact tI|refine aI ?_ ?_|intro _)|((first|with_reducible refine AU ?_ ?_<;>intro _)<;>try (simp -implicitDefEqProofs only[go_sem,Aa,AP]))|simp (disch:=omega) only[Al]
 all_goals first|omega|(simp<;>omega)|skip
 refine QO (α:=List Bv) (fun l=>⟨A7 (mK a (.map Sp (Vs es)) l),fun _=>1⟩) (fun k l=>l=(a.spots.take k).filter (CI es)) (fun e x=>False) [] (sl1:=Dc ?l7) ?h07 (fun _=>rfl) E' (by simp[PC.noR]) cR ?hw7 rfl ?step7 ?hend7 (fun e x h=>h.elim)
 case h07 =>
  simp -implicitDefEqProofs only[go_sem,Aa,AP,O']
  refine⟨.inl ⟨_,rfl,rfl⟩,?_⟩<;>rfl
 case hw7 =>
  simp -implicitDefEqProofs only[go_sem,O']
 case step7 =>
  intro k l ds hds hl
  rw[List.getElem?_map] at hds
  simp only[Option.map_eq_some_iff] at hds
  obtain⟨v0,hx,rfl⟩:=hds
  change l=(a.spots.take k).filter (CI es) at hl
  refine⟨rfl,?_⟩
  have htk:=Fp hx (CI es)
  have hlen:l.length<=697:=by
   rw[hl]
   exact Nat.le_trans (List.length_filter_le _ _) (Nat.le_trans (by rw[List.length_take];exact Nat.min_le_right _ _) (Gt g))
  have c3:=F8 es v0
  rw[Ah,Af] at c3
  cases l with
  |nil =>
   cases hmm:CI es v0 with
   |false =>
    rw[hmm] at c3
    rw[hmm,if_neg (by simp),List.append_nil,←hl] at htk
    (try (simp -implicitDefEqProofs only[go_sem,O',Ah,Af]));repeat' first|(with_reducible first|exact tI|refine aI ?_ ?_|intro _)|((first|with_reducible refine AU ?_ ?_<;>intro _|(with_reducible refine isCall ?_);first|refine AF c3 ?_)<;>try (simp -implicitDefEqProofs only[go_sem,O',Ah,Af]))|simp (disch:=omega) only[Al]
    all_goals first|exact⟨_,rfl,htk.symm⟩|trace_state
   |true =>
    rw[hmm] at c3
    rw[hmm,if_pos rfl,←hl] at htk
    (try (simp -implicitDefEqProofs only[go_sem,O',Ah,Af]));repeat' first|(with_reducible first|exact tI|refine aI ?_ ?_|intro _)|((first|with_reducible refine AU ?_ ?_<;>intro _|(with_reducible refine isCall ?_);first|refine AF c3 ?_)<;>try (simp -implicitDefEqProofs only[go_sem,O',Ah,Af]))|simp (disch:=omega) only[Al]
    all_goals first|exact⟨[v0],rfl,htk.symm⟩|trace_state
  |cons y l =>
   cases hmm:CI es v0 with
   |false =>
    rw[hmm] at c3
    rw[hmm,if_neg (by simp),List.append_nil,←hl] at htk
    (try (simp -implicitDefEqProofs only[go_sem,Sv,Ah,Af]));repeat' first|(with_reducible first|exact tI|refine aI ?_ ?_|intro _)|((first|with_reducible refine AU ?_ ?_<;>intro _|(with_reducible refine isCall ?_);first|refine AF c3 ?_)<;>try (simp -implicitDefEqProofs only[go_sem,Sv,Ah,Af]))|simp (disch:=omega) only[Al]
    all_goals first|exact⟨_,rfl,htk.symm⟩|exact⟨y::l,rfl,htk.symm⟩|trace_state
   |true =>
    rw[hmm] at c3
    rw[hmm,if_pos rfl,←hl] at htk
    have hln:l.length<=1073741822:=by simp only[List.length_cons] at hlen;omega
    (try (simp -implicitDefEqProofs only[go_sem,Sv,Ah,Af,BS,C9,Gj]));repeat' first|(with_reducible first|exact tI|refine aI ?_ ?_|intro _)|((first|with_reducible refine AU ?_ ?_<;>intro _|(with_reducible refine isCall ?_);first|refine AF c3 ?_)<;>try (simp -implicitDefEqProofs only[go_sem,Sv,Ah,Af,BS,C9,Gj]))|simp (disch:=omega) only[Al]
    all_goals first|omega|exact⟨y::l++[v0],rfl,htk.symm⟩|trace_state
 case hend7 =>
  intro l hl
  change l=(a.spots.take (a.spots.map fun s=>[F7 s]).length).filter (CI es) at hl
  rw[List.length_map,List.take_length] at hl
  rw[←hl]
  cases l with
  |nil =>
   (try (simp -implicitDefEqProofs only[go_sem,O']));repeat' first|(with_reducible first|exact tI|refine aI ?_ ?_|intro _)|((first|with_reducible refine AU ?_ ?_<;>intro _)<;>try (simp -implicitDefEqProofs only[go_sem,O']))|simp (disch:=omega) only[Al]
   all_goals first|omega|rfl|exact⟨rfl,rfl⟩|trace_state
  |cons y l =>
   (try (simp -implicitDefEqProofs only[go_sem,Sv]));repeat' first|(with_reducible first|exact tI|refine aI ?_ ?_|intro _)|((first|with_reducible refine AU ?_ ?_<;>intro _)<;>try (simp -implicitDefEqProofs only[go_sem,Sv]))|simp (disch:=omega) only[Al]
   all_goals first|omega|rfl|trace_state
theorem Ut (a:A1) (g:a.Good) (hok:a.ok=true) (t:Int) (h:0<=t/\t<=a.last):Ca E0 O6 [FW a,.int .i64 t,.list true []] (.tup [FW a,.int .i64 0]):=by
 refine AW PU Aq (by simp) fun hwf=>?_
 have c1:=H8 a
 have c2:=Bz t 0 a.last
 rw[Nb.2 h] at c2
 rw[hok] at c1
 have c3:=Ih true [] GJ [.ptr (Se a)] (fun s=>!a.has s) LV rfl (fun x hx=>by cases hx)
 rw[AZ];unfold MT
 rw[Aa,AP] at c1
 rw[AP,List.any_nil] at c3
 (try (simp -implicitDefEqProofs only[go_sem,Aa,AP,LV]));repeat' first|(with_reducible first|exact tI|refine aI ?_ ?_|intro _)|((first|with_reducible refine AU ?_ ?_<;>intro _|(with_reducible refine isCall ?_);first|refine AF c1 ?_|refine AF c2 ?_|refine AF c3 ?_)<;>try (simp -implicitDefEqProofs only[go_sem,Aa,AP,LV]))|simp (disch:=omega) only[Al]
 all_goals first|rfl|(simp;done)|trace_state
theorem Sd (a:A1) (g:a.Good) (hok:a.ok=true) (t:Int) (h:0<=t/\t<=a.last):Ca E0 Pr [FW a,.int .i64 t] (.tup [.list (W9 a t).isEmpty (H' (W9 a t)),.int .i64 0]):=by
 refine AW SV Aq (by simp) fun hwf=>?_
 have c1:=Ut a g hok t h
 have c2:=L2 a t
 have cK:=Rn a g DD (Sq a t) (Iy a t) PZ rfl (fun x=>Ku a g t x)
 obtain⟨CL,hCL⟩:∃CL,(GX a (Iy a t)).length=CL:=⟨_,rfl⟩
 unfold W9
 obtain⟨es,hes⟩:∃es,E2 a (Iy a t)=es:=⟨_,rfl⟩
 rw[hes,hCL] at cK
 rw[hes]
 have c3:=Rm a g es
 rw[←Fx] at c3
 rw[Aa,AP] at c1 c2 cK c3
 rw[J9,AP] at c2 cK
 rw[AZ];unfold NJ
 (try (simp -implicitDefEqProofs only[go_sem,Aa,AP]));repeat' first|(with_reducible first|exact tI|refine aI ?_ ?_|intro _)|((first|with_reducible refine AU ?_ ?_<;>intro _|(with_reducible refine isCall ?_);first|refine AF c1 ?_|refine AF c2 ?_|(refine H6 ([]) ([((5000013,0),(22,0))]) (cK) (by repeat' first|exact True.intro|exact rfl|refine And.intro ?_ ?_) (by simp[D7,EQ.get,Ae.ren,AV.ren,AV.ren.renL,AO.get,A7,CZ,Fd,AO.reach,AV.sites,AV.sites.sitesL,AO.osites]) (by simp[Db,IW,DW,EQ.get,Fd,DB,CN,F0,Eh]) (by rfl) (by simp only[FG,EQ.get,Ae.ren,AV.ren,AV.ren.renL,and_self,and_true,true_and,if_true,reduceIte];rfl) ?_))<;>try (simp -implicitDefEqProofs only[go_sem,Aa,AP]))|simp (disch:=omega) only[Al]
 refine Uq c3 (by simp[DB]) (Zs _) ?_
 (try (simp -implicitDefEqProofs only[go_sem]));repeat' first|(with_reducible first|exact tI|refine aI ?_ ?_|intro _)|((first|with_reducible refine AU ?_ ?_<;>intro _)<;>try (simp -implicitDefEqProofs only[go_sem]))|simp (disch:=omega) only[Al]
 all_goals first|rfl|(simp;done)|trace_state
end Go.Pw
end

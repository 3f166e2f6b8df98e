/- A part of the proof. -/
import Derived.Test.YtpcpcjbbdgmohaaGreatPgQuZonesG
import Derived.Test.YtpcpcjbbdgmohaaGreatZonesSpec5
set_option linter.all false
section
open Go Go.Pw Go.Proofs
namespace Go.Pw
set_option maxRecDepth 100000
set_option maxHeartbeats 1600000
attribute [local congr] DX B3 B4 Bc DZ Bj Bl Bk Bb BN BF A6 Be BG Bg CD CE CF Cd Ce B9 Bf BL Bi BM B8 Cf BK CB CC B_ B6 B7 B2 DY B5 Bd BI BH BJ Bh CA
attribute [local irreducible] IntKind.wrap CK Option.getD and or
theorem Gy (d:AG) (h:d.ok=true) (a c:Int) (ha:0<=a) (hc:1<=c) (hs:a+c<=d.size) :
  Ca E0 Ip [Cr d,.int .i64 a,.int .i64 c] (.list (d.kinds a (c.toNat-1)).isEmpty (Bs (d.kinds a (c.toNat-1)))):=by
 have g:=Bu h
 refine AW Mc Aq (by simp) fun hwf=>?_
 have hsz:=Cm g
 have hlen:=QP d
 have c1:=Eg d h
 have w0:IntKind.i64.wrap (a+1)=a+1:=Ad _ (by omega)
 have w1:IntKind.i64.wrap (a+c)=a+c:=Ad _ (by omega)
 rw[AZ];unfold Hd
 (try (simp -implicitDefEqProofs only[go_sem,AI,AD,w0]));repeat' first|(with_reducible first|exact tI|refine aI ?_ ?_|intro _)|((first|with_reducible refine AU ?_ ?_<;>intro _|(with_reducible refine isCall ?_);first|refine AF c1 ?_)<;>try (simp -implicitDefEqProofs only[go_sem,AI,AD,w0]))|simp (disch:=omega) only[Al]|((with_reducible refine Ba ?_);refine⟨(_,_,_),rfl,?_,?_⟩)
 all_goals first|omega|(simp<;>omega)|skip
 refine Ao (α:=Int×(List Int)×Bool) (l0:=?l1) (m0:=?m1) (fun x=>[(9,.d (.int .i64 x.1))]) (fun x=>[(49,.row 3 1 x.2.2 (Bs x.2.1))]) (fun x=>(a+1<=x.1/\x.1<=a+c)/\x.2.1=d.kinds a (x.1-a-1).toNat/\x.2.2=x.2.1.isEmpty) (fun x=>(a+c-x.1).toNat) (?a1_0,[],true) ?h01 ?he1 ?he21 ?hI1 ?step1
 case h01=>(simp -implicitDefEqProofs only[go_sem,DU];rfl)
 case he1=>rfl
 case he21=>rfl
 case' step1=>(rintro⟨n,out,b⟩ hI;try dsimp only at hI)
 case' hI1=>try dsimp only
 ·refine⟨⟨by omega,by omega⟩,?_,rfl⟩
  rw[show (a+1-a-1).toNat=0 by omega];rfl
 ·obtain⟨⟨h1,h2⟩,h3,h4⟩:=hI
  by_cases hn:n<a+c
  ·have hk:=Xw d a (n-a-1).toNat
   rw[←h3,show a+1+(((n-a-1).toNat:Nat):Int)=n by omega,show (n-a-1).toNat+1=(n+1-a-1).toNat by omega,dx g (by omega) (by omega)] at hk
   have hg1:=M7 (d:=d) n (by omega) (by omega)
   have hg2:=M7 (d:=d) (n-1) (by omega) (by omega)
   obtain⟨p,hp⟩:∃p,d.pl n=p:=⟨_,rfl⟩
   obtain⟨q,hq⟩:∃q,d.pl (n-1)=q:=⟨_,rfl⟩
   rw[hp] at hg1 hk;rw[hq] at hg2 hk
   have i1:n<d.pls.length:=by omega
   have i2:n-1<d.pls.length:=by omega
   have i3:0<=n:=by omega
   have i4:0<=n-1:=by omega
   have w2:IntKind.i64.wrap (n-1)=n-1:=Ad _ (by omega)
   have w3:IntKind.i64.wrap (n+1)=n+1:=Ad _ (by omega)
   have ol:=LO d a (n-a-1).toNat
   rw[←h3] at ol
   have hemp:∀z:Int,(out++[z]).isEmpty=false:=fun z=>H3 out z
   by_cases e1:p.1=q.1
   ·by_cases e2:p.2.1=q.2.1
    ·rw[if_neg (by simpa using e1),if_neg (by simpa using e2)] at hk
     (try (simp -implicitDefEqProofs only[go_sem,DU,DG,hg1,hg2,Hz,C_,i1,i2,i3,i4,w1,w2,w3,hn,e1,e2]));repeat' first|(with_reducible first|exact tI|refine aI ?_ ?_|intro _)|((first|with_reducible refine AU ?_ ?_<;>intro _)<;>try (simp -implicitDefEqProofs only[go_sem,DU,DG,hg1,hg2,Hz,C_,i1,i2,i3,i4,w1,w2,w3,hn,e1,e2]))|simp (disch:=omega) only[Al]|((with_reducible refine Ba ?_);refine⟨(_,_,_),rfl,?_,?_⟩)
     all_goals first|omega|(simp<;>omega)|skip
     all_goals first|exact hk.symm|exact(hemp _).symm
    ·rw[if_neg (by simpa using e1),if_pos (by simpa using e2)] at hk
     (try (simp -implicitDefEqProofs only[go_sem,DU,DG,hg1,hg2,Hz,C_,i1,i2,i3,i4,w1,w2,w3,hn,e1,e2]));repeat' first|(with_reducible first|exact tI|refine aI ?_ ?_|intro _)|((first|with_reducible refine AU ?_ ?_<;>intro _)<;>try (simp -implicitDefEqProofs only[go_sem,DU,DG,hg1,hg2,Hz,C_,i1,i2,i3,i4,w1,w2,w3,hn,e1,e2]))|simp (disch:=omega) only[Al]|((with_reducible refine Ba ?_);refine⟨(_,_,_),rfl,?_,?_⟩)
     all_goals first|omega|(simp<;>omega)|skip
     all_goals first|exact hk.symm|exact(hemp _).symm
   ·rw[if_pos (by simpa using e1)] at hk
    (try (simp -implicitDefEqProofs only[go_sem,DU,DG,hg1,hg2,Hz,C_,i1,i2,i3,i4,w1,w2,w3,hn,e1]));repeat' first|(with_reducible first|exact tI|refine aI ?_ ?_|intro _)|((first|with_reducible refine AU ?_ ?_<;>intro _)<;>try (simp -implicitDefEqProofs only[go_sem,DU,DG,hg1,hg2,Hz,C_,i1,i2,i3,i4,w1,w2,w3,hn,e1]))|simp (disch:=omega) only[Al]|((with_reducible refine Ba ?_);refine⟨(_,_,_),rfl,?_,?_⟩)
    all_goals first|omega|(simp<;>omega)|skip
    all_goals first|exact hk.symm|exact(hemp _).symm
  ·have hne:n=a+c:=by omega
   have hk:out=d.kinds a (c.toNat-1):=by rw[h3,show (n-a-1).toNat=c.toNat-1 by omega]
   rw[←hk,←h4]
   (try (simp -implicitDefEqProofs only[go_sem,hn,w1]));repeat' first|(with_reducible first|exact tI|refine aI ?_ ?_|intro _)|((first|with_reducible refine AU ?_ ?_<;>intro _)<;>try (simp -implicitDefEqProofs only[go_sem,hn,w1]))|simp (disch:=omega) only[Al]|((with_reducible refine Ba ?_);refine⟨(_,_,_),rfl,?_,?_⟩)
   all_goals first|omega|(simp<;>omega)|skip
theorem Gz (d:AG) (e:Int):Ca E0 Iq [Cr d,.int .i64 e] (.tup [.agg [.int .i64 (d.swLo e),.int .i64 (d.swHi e)],.int .i64 (d.swSk e)]):=by
 refine AW Md Aq (by simp) fun hwf=>?_
 rw[AZ];unfold He AG.swLo AG.swHi AG.swSk
 by_cases h1:e=1
 ·(try (simp -implicitDefEqProofs only[go_sem,AI,AD,h1]));repeat' first|(with_reducible first|exact tI|refine aI ?_ ?_|intro _)|((first|with_reducible refine AU ?_ ?_<;>intro _)<;>try (simp -implicitDefEqProofs only[go_sem,AI,AD,h1]))|simp (disch:=omega) only[Al]
  all_goals first|omega|(simp<;>omega)|skip
 ·by_cases h2:e=2
  ·(try (simp -implicitDefEqProofs only[go_sem,AI,AD,h2]));repeat' first|(with_reducible first|exact tI|refine aI ?_ ?_|intro _)|((first|with_reducible refine AU ?_ ?_<;>intro _)<;>try (simp -implicitDefEqProofs only[go_sem,AI,AD,h2]))|simp (disch:=omega) only[Al]
   all_goals first|omega|(simp<;>omega)|skip
  ·(try (simp -implicitDefEqProofs only[go_sem,AI,AD,h1,h2]));repeat' first|(with_reducible first|exact tI|refine aI ?_ ?_|intro _)|((first|with_reducible refine AU ?_ ?_<;>intro _)<;>try (simp -implicitDefEqProofs only[go_sem,AI,AD,h1,h2]))|simp (disch:=omega) only[Al]
   all_goals first|omega|(simp<;>omega)|skip
theorem R9 (d:AG) (g:d.Good) (e t:Int) (he:e=1\/e=2) (ht:0<=t/\t<=2000):Ca E0 Pl [Cr d,.int .i64 e,.int .i64 t] (.int .i64 (d.gapK e t)):=by
 refine AW SN Aq (by simp) fun hwf=>?_
 have t1:=g.t1;have t2:=g.t2;have k1:=g.k1;have k2:=g.k2;have c1:=g.c1;have c2:=g.c2
 have s1:=Gz d e
 obtain⟨sk,hsk⟩:∃sk,d.swSk e=sk:=⟨_,rfl⟩
 have hskb:0<=sk/\sk<d.turn:=by subst hsk;unfold AG.swSk;rcases he with rfl|rfl<;>simp<;>omega
 have hgk:d.gapK e t=De d.turn sk t:=by subst hsk;unfold AG.gapK AG.swSk;rcases he with rfl|rfl<;>simp
 have s2:=JY d g t sk (by omega) (by omega)
 have hb1:=Int.emod_nonneg (sk-t) (b:=d.turn) (by omega)
 have hb2:=Int.emod_lt_of_pos (sk-t) (b:=d.turn) (by omega)
 have hv:=X0 (t:=d.turn) (s:=sk) (x:=t) (by omega) hskb ht.1
 have hv2:t+(sk-t)%d.turn=De d.turn sk t:=by
  rw[←hv];congr 1
  have hb3:=Int.lt_tmod_of_pos (sk-t) (b:=d.turn) (by omega)
  rw[Int.tmod_eq_emod_of_nonneg (by omega),Int.add_emod_right]
  have h3:=Int.mul_tdiv_add_tmod (sk-t) d.turn
  have h4:(sk-t).tmod d.turn=(sk-t)+d.turn*(-(sk-t).tdiv d.turn):=by rw[Int.mul_neg];omega
  rw[h4,Int.add_mul_emod_self_left]
 rw[hsk] at s1
 have w1:IntKind.i64.wrap (t+(sk-t)%d.turn)=De d.turn sk t:=by rw[←hv2];exact Ad _ (by omega)
 rw[hgk,AZ];unfold NB
 (try (simp -implicitDefEqProofs only[go_sem,AI,AD,w1]));repeat' first|(with_reducible first|exact tI|refine aI ?_ ?_|intro _)|((first|with_reducible refine AU ?_ ?_<;>intro _|(with_reducible refine isCall ?_);first|refine AF s1 ?_|refine AF s2 ?_)<;>try (simp -implicitDefEqProofs only[go_sem,AI,AD,w1]))|simp (disch:=omega) only[Al]
 all_goals first|omega|(simp<;>omega)|skip
end Go.Pw
end
section
open Go Go.Pw Go.Proofs
namespace Go.Pw
set_option maxRecDepth 100000
set_option maxHeartbeats 1600000
theorem TE (f:Int->Int) (l:List Int) (n:Nat) (h:n<l.length):(l.take (n+1)).map f=(l.take n).map f++[f (l[n]?.getD 0)]:=by
 rw[List.take_add_one,List.getElem?_eq_getElem h,List.map_append];rfl
theorem U5 (d:AG) (a:Int) (xs:List Int) (m:Nat) (h:∀i:Nat,i<m->0<d.kindN (a+1+i)->0<=xs[i]?.getD 0/\xs[i]?.getD 0<=2000) (g:d.Good):0<=d.gapsL a xs m/\d.gapsL a xs m<=m*2001000 :=
 E8 m fun i hi=>PR g a xs _ fun hk=>by simpa using h i hi (by simpa using hk)
attribute [local congr] DX B3 B4 Bc DZ Bj Bl Bk Bb BN BF A6 Be BG Bg CD CE CF Cd Ce B9 Bf BL Bi BM B8 Cf BK CB CC B_ B6 B7 B2 DY B5 Bd BI BH BJ Bh CA
attribute [local irreducible] IntKind.wrap CK Option.getD and or
theorem JW (d:AG) (h:d.ok=true) (a c:Int) (ha:0<=a) (hc:1<=c) (hs:a+c<=d.size) (nl:Bool) (xs:List Int) (hl:xs.length=c.toNat-1)
  (hx:∀i:Nat,i<c.toNat-1->0<d.kindN (a+1+i)->0<=xs[i]?.getD 0/\xs[i]?.getD 0<=2000) :
  Ca E0 L_ [Cr d,.int .i64 a,.int .i64 c,.list nl (Bs xs)] (.int .i64 (d.ticksL a c.toNat xs)):=by
 have g:=Bu h
 refine AW QB Aq (by simp) fun hwf=>?_
 have hsz:=Cm g
 have hlen:=QP d
 have t1:=g.t1;have t2:=g.t2
 have c1:=Eg d h
 have c2:=Gy d h a c ha hc hs
 have w1:IntKind.i64.wrap (a+c)=a+c:=Ad _ (by omega)
 have hkl:=LO d a (c.toNat-1)
 rw[AZ];unfold KR
 (try (simp -implicitDefEqProofs only[go_sem,AI,AD]));repeat' first|(with_reducible first|exact tI|refine aI ?_ ?_|intro _)|((first|with_reducible refine AU ?_ ?_<;>intro _|(with_reducible refine isCall ?_);first|refine AF c1 ?_|refine AF c2 ?_)<;>try (simp -implicitDefEqProofs only[go_sem,AI,AD]))|simp (disch:=omega) only[Al]|((with_reducible refine A0 ?_);refine⟨(_,_),rfl,?_,?_⟩)
 all_goals first|omega|(simp<;>omega)|skip
 refine Ao (α:=Int×Int) (l0:=?l1) (m0:=?m1) (fun x=>[(12,.d (.int .i64 x.1)),(11,.d (.int .i64 x.2))]) (fun x=>[]) (fun x=>(a<=x.1/\x.1<=a+c)/\x.2=d.ticksR a (x.1-a).toNat) (fun x=>(a+c-x.1).toNat) (?a1_0,?a1_1) ?h01 ?he1 ?he21 ?hI1 ?step1
 case h01=>(simp -implicitDefEqProofs only[go_sem,AD,AI];rfl)
 case he1=>rfl
 case he21=>rfl
 case' step1=>(rintro⟨i,n⟩ hI;try dsimp only at hI)
 case' hI1=>try dsimp only
 ·refine⟨⟨by omega,by omega⟩,?_⟩
  rw[show (a-a).toNat=0 by omega];rfl
 ·obtain⟨⟨h1,h2⟩,h3⟩:=hI
  have w2:IntKind.i64.wrap (i+1)=i+1:=Ad _ (by omega)
  by_cases hi:i<a+c
  ·obtain⟨k,hk⟩:=Option.isSome_iff_exists.1 ((LP g i).2 (by omega))
   obtain⟨k1,k2⟩:=E3 hk
   have hget:=M7 (d:=d) i (by omega) (by omega)
   rw[Vd g hk] at hget
   have c3:=EN d h (d.tc k) (Yk k) (Yl k1)
   rw[←Tt] at c3
   have ho:=g.own k1
   have hts:=g.ts k1
   have hq:=ho.2.2.2
   have hw2:IntKind.i64.wrap (d.own k)=d.own k:=Ad _ (by omega)
   have hne:¬d.ts k=0:=by omega
   have hil:i<d.pls.length:=by omega
   have h0:0<=i:=by omega
   have hb:=Gc g a (i-a).toNat
   have hn:n+d.own k=d.ticksR a (i+1-a).toNat:=by
    rw[h3,show (i+1-a).toNat=(i-a).toNat+1 by omega,AG.ticksR,AG.ticksR,Dy,show a+(((i-a).toNat:Nat):Int)=i by omega,dP g k1 k2]
   have hw3:IntKind.i64.wrap (n+d.own k)=n+d.own k:=Ad _ (by omega)
   (try (simp -implicitDefEqProofs only[go_sem,AD,AI,DU,DG,hget,Hz,C_,hil,h0,hq,hw2,hw3,hne,hi,w1,w2]));repeat' first|(with_reducible first|exact tI|refine aI ?_ ?_|intro _)|((first|with_reducible refine AU ?_ ?_<;>intro _|(with_reducible refine isCall ?_);first|refine AF c3 ?_)<;>try (simp -implicitDefEqProofs only[go_sem,AD,AI,DU,DG,hget,Hz,C_,hil,h0,hq,hw2,hw3,hne,hi,w1,w2]))|simp (disch:=omega) only[Al]|((with_reducible refine A0 ?_);refine⟨(_,_),rfl,?_,?_⟩)
   all_goals first|omega|(simp<;>omega)|skip
  ·have hie:i=a+c:=by omega
   rw[hie,show (a+c-a).toNat=c.toNat by omega] at h3
   have hb:=Gc g a c.toNat
   unfold AG.ticksL
   generalize d.ticksR a c.toNat=t0 at *
   (try (simp -implicitDefEqProofs only[go_sem,AD,AI,hi,w1]));repeat' first|(with_reducible first|exact tI|refine aI ?_ ?_|intro _)|((first|with_reducible refine AU ?_ ?_<;>intro _)<;>try (simp -implicitDefEqProofs only[go_sem,AD,AI,hi,w1]))|simp (disch:=omega) only[Al]|((with_reducible refine A0 ?_);refine⟨(_,_),rfl,?_,?_⟩)
   all_goals first|omega|(simp<;>omega)|skip
   refine Ao (α:=Int×Int) (l0:=?l2) (m0:=?m2) (fun x=>[(13,.d (.int .i64 x.1)),(11,.d (.int .i64 x.2))]) (fun x=>[]) (fun x=>(0<=x.1/\x.1<=c-1)/\x.2=t0+d.gapsL a xs x.1.toNat) (fun x=>(c-1-x.1).toNat) (?a2_0,?a2_1) ?h02 ?he2 ?he22 ?hI2 ?step2
   case h02=>(simp -implicitDefEqProofs only[go_sem,AD];rfl)
   case he2=>rfl
   case he22=>rfl
   case' step2=>(rintro⟨j,m⟩ hI2;try dsimp only at hI2)
   case' hI2=>try dsimp only
   ·exact⟨⟨by omega,by omega⟩,by rw[h3];simp[AG.gapsL,Dy]⟩
   ·obtain⟨⟨q1,q2⟩,q3⟩:=hI2
    have w4:IntKind.i64.wrap (j+1)=j+1:=Ad _ (by omega)
    by_cases hj:j<c-1
    ·have hkg:=TK d a (c.toNat-1) j.toNat (by omega)
     obtain⟨e,he⟩:∃e,d.kindN (a+1+(j.toNat:Nat))=e:=⟨_,rfl⟩
     rw[he] at hkg
     have hjl:j<(d.kinds a (c.toNat-1)).length:=by omega
     have hjx:j<xs.length:=by omega
     have hxj:=hx j.toNat (by omega)
     rw[he] at hxj
     have hbd:=U5 d a xs j.toNat (fun i hi=>hx i (by omega)) g
     have hnx:d.gapsL a xs (j+1).toNat=d.gapsL a xs j.toNat+(if 0<e then d.gapK e (xs[j.toNat]?.getD 0) else 0):=by
      unfold AG.gapsL
      rw[show (j+1).toNat=j.toNat+1 by omega,Dy,Int.zero_add]
      congr 1
      unfold AG.gapAt
      rw[he,Int.toNat_natCast]
     have hkr:=Kh d (a+1+(j.toNat:Nat))
     rw[he] at hkr
     by_cases hp:0<e
     ·rw[if_pos hp] at hnx
      have c4:=R9 d g e (xs[j.toNat]?.getD 0) (by omega) (hxj hp)
      have hgb:=PR g a xs (j.toNat:Nat) (fun hk=>by rw[Int.toNat_natCast];exact hxj hp)
      unfold AG.gapAt at hgb
      rw[he,if_pos hp,Int.toNat_natCast] at hgb
      have w5:IntKind.i64.wrap (m+d.gapK e (xs[j.toNat]?.getD 0))=m+d.gapK e (xs[j.toNat]?.getD 0):=Ad _ (by omega)
      (try (simp -implicitDefEqProofs only[go_sem,AD,AI,hkg,hjl,hjx,q1,hp,w4,w5]));repeat' first|(with_reducible first|exact tI|refine aI ?_ ?_|intro _)|((first|with_reducible refine AU ?_ ?_<;>intro _|(with_reducible refine isCall ?_);first|refine AF c4 ?_)<;>try (simp -implicitDefEqProofs only[go_sem,AD,AI,hkg,hjl,hjx,q1,hp,w4,w5]))|simp (disch:=omega) only[Al]|((with_reducible refine A0 ?_);refine⟨(_,_),rfl,?_,?_⟩)
      all_goals first|omega|(simp<;>omega)|skip
     ·rw[if_neg hp] at hnx
      (try (simp -implicitDefEqProofs only[go_sem,AD,AI,hkg,hjl,hjx,q1,hp,w4]));repeat' first|(with_reducible first|exact tI|refine aI ?_ ?_|intro _)|((first|with_reducible refine AU ?_ ?_<;>intro _)<;>try (simp -implicitDefEqProofs only[go_sem,AD,AI,hkg,hjl,hjx,q1,hp,w4]))|simp (disch:=omega) only[Al]|((with_reducible refine A0 ?_);refine⟨(_,_),rfl,?_,?_⟩)
      all_goals first|omega|(simp<;>omega)|skip
    ·have hjl:¬j<(d.kinds a (c.toNat-1)).length:=by omega
     have hje:j.toNat=c.toNat-1:=by omega
     rw[hje] at q3
     (try (simp -implicitDefEqProofs only[go_sem,AD,AI,hjl]));repeat' first|(with_reducible first|exact tI|refine aI ?_ ?_|intro _)|((first|with_reducible refine AU ?_ ?_<;>intro _)<;>try (simp -implicitDefEqProofs only[go_sem,AD,AI,hjl]))|simp (disch:=omega) only[Al]|((with_reducible refine A0 ?_);refine⟨(_,_),rfl,?_,?_⟩)
     all_goals first|omega|(simp<;>omega)|skip
theorem Vt {d:AG}{a:Int}{m:Nat}(f:Int->Int) (h:∀e,0<=f e/\f e<=2000):∀i:Nat,i<m->0<d.kindN (a+1+i)->0<=((d.kinds a m).map f)[i]?.getD 0/\((d.kinds a m).map f)[i]?.getD 0<=2000:=fun i hi _=>by
 rw[Ez f a m i hi];exact h _
theorem R7 (d:AG) (h:d.ok=true) (a c:Int) (ha:0<=a) (hc:1<=c) (hs:a+c<=d.size) :
  Ca E0 Pj [Cr d,.int .i64 a,.int .i64 c] (.agg [.int .i64 (d.low a c.toNat),.int .i64 (d.high a c.toNat)]):=by
 have g:=Bu h
 refine AW SL Aq (by simp) fun hwf=>?_
 have hsz:=Cm g
 have s1:=g.s1;have s2:=g.s2;have s3:=g.s3;have s4:=g.s4;have s5:=g.s5;have s6:=g.s6
 have c1:=Gy d h a c ha hc hs
 have hkl:=LO d a (c.toNat-1)
 have hlo:∀e,0<=d.swLo e/\d.swLo e<=2000:=fun e=>by unfold AG.swLo;split<;>(try split)<;>omega
 have hhi:∀e,0<=d.swHi e/\d.swHi e<=2000:=fun e=>by unfold AG.swHi;split<;>(try split)<;>omega
 have e1:=fun b=>JW d h a c ha hc hs b ((d.kinds a (c.toNat-1)).map d.swLo) (by simpa using hkl) (Vt d.swLo hlo)
 have e2:=fun b=>JW d h a c ha hc hs b ((d.kinds a (c.toNat-1)).map d.swHi) (by simpa using hkl) (Vt d.swHi hhi)
 have f1:=W4 (d:=d) a c.toNat
 have f2:=U4 (d:=d) a c.toNat
 have f3:d.low a c.toNat=d.ticksL a c.toNat ((d.kinds a (c.toNat-1)).map d.swLo):=f1.symm
 have f4:d.high a c.toNat=d.ticksL a c.toNat ((d.kinds a (c.toNat-1)).map d.swHi):=f2.symm
 rw[f3,f4]
 clear f1 f2 f3 f4
 generalize d.kinds a (c.toNat-1)=ks at *
 have c2:=fun e=>Gz d e
 rw[AZ];unfold M_
 (try (simp -implicitDefEqProofs only[go_sem,AI,AD]));repeat' first|(with_reducible first|exact tI|refine aI ?_ ?_|intro _)|((first|with_reducible refine AU ?_ ?_<;>intro _|(with_reducible refine isCall ?_);first|refine AF c1 ?_)<;>try (simp -implicitDefEqProofs only[go_sem,AI,AD]))|simp (disch:=omega) only[Al]|((with_reducible refine d_ ?_);refine⟨(_,_,_,_,_),rfl,?_,?_⟩)
 all_goals first|omega|(simp<;>omega)|skip
 refine Ao (α:=Int×(List Int)×(List Int)×Bool×Bool) (l0:=?l3) (m0:=?m3) (fun x=>[(10,.d (.int .i64 x.1))]) (fun x=>[(36,.row 3 1 x.2.2.2.1 (Bs x.2.1)),(41,.row 3 1 x.2.2.2.2 (Bs x.2.2.1))]) (fun x=>(0<=x.1/\x.1<=ks.length)/\x.2.1=(ks.take x.1.toNat).map d.swLo/\x.2.2.1=(ks.take x.1.toNat).map d.swHi/\x.2.2.2.1=x.2.1.isEmpty/\x.2.2.2.2=x.2.2.1.isEmpty) (fun x=>(ks.length-x.1).toNat) (?a3_0,[],[],true,true) ?h03 ?he3 ?he23 ?hI3 ?step3
 case h03=>(simp -implicitDefEqProofs only[go_sem,AD];rfl)
 case he3=>rfl
 case he23=>rfl
 case' step3=>(rintro⟨j,lo,hi,b1,b2⟩ hI;try dsimp only at hI)
 case' hI3=>try dsimp only
 ·exact⟨⟨by omega,by omega⟩,by simp,by simp,rfl,rfl⟩
 ·obtain⟨⟨q1,q2⟩,q3,q4,q5,q6⟩:=hI
  by_cases hj:j<ks.length
  ·have w1:IntKind.i64.wrap (j+1)=j+1:=Ad _ (by omega)
   have m1:=TE d.swLo ks j.toNat (by omega)
   have m2:=TE d.swHi ks j.toNat (by omega)
   rw[←q3,show j.toNat+1=(j+1).toNat by omega] at m1
   rw[←q4,show j.toNat+1=(j+1).toNat by omega] at m2
   have l1:lo.length=j.toNat:=by rw[q3];simp;omega
   have l2:hi.length=j.toNat:=by rw[q4];simp;omega
   have hemp:∀(l:List Int) (z:Int),(l++[z]).isEmpty=false:=fun l z=>H3 l z
   obtain⟨e,he⟩:∃e,ks[j.toNat]?.getD 0=e:=⟨_,rfl⟩
   rw[he] at m1 m2
   (try (simp -implicitDefEqProofs only[go_sem,AD,AI,he,q1,hj,w1]));repeat' first|(with_reducible first|exact tI|refine aI ?_ ?_|intro _)|((first|with_reducible refine AU ?_ ?_<;>intro _|(with_reducible refine isCall ?_);first|refine AF (c2 _) ?_)<;>try (simp -implicitDefEqProofs only[go_sem,AD,AI,he,q1,hj,w1]))|simp (disch:=omega) only[Al]|((with_reducible refine d_ ?_);refine⟨(_,_,_,_,_),rfl,?_,?_⟩)
   all_goals first|omega|(simp<;>omega)|skip
   all_goals first|exact m1.symm|exact m2.symm
  ·have hjl:¬j<(ks.length:Int):=hj
   have n1:lo=ks.map d.swLo:=by rw[q3,List.take_of_length_le (by omega)]
   have n2:hi=ks.map d.swHi:=by rw[q4,List.take_of_length_le (by omega)]
   rw[←n1] at e1 ⊢;rw[←n2] at e2 ⊢
   (try (simp -implicitDefEqProofs only[go_sem,AD,AI,hjl]));repeat' first|(with_reducible first|exact tI|refine aI ?_ ?_|intro _)|((first|with_reducible refine AU ?_ ?_<;>intro _|(with_reducible refine isCall ?_);first|refine AF (e1 _) ?_|refine AF (e2 _) ?_)<;>try (simp -implicitDefEqProofs only[go_sem,AD,AI,hjl]))|simp (disch:=omega) only[Al]|((with_reducible refine d_ ?_);refine⟨(_,_,_,_,_),rfl,?_,?_⟩)
   all_goals first|omega|(simp<;>omega)|skip
theorem JX (d:AG) (h:d.ok=true) (a c:Int):Ca E0 MA [Cr d,.int .i64 a,.int .i64 c] (.bool (decide (d.isRun a c))):=by
 have g:=Bu h
 refine AW QC Aq (by simp) fun hwf=>?_
 have hsz:=Cm g
 have c1:=G1 d h a
 have c2:=GK d h
 have c3:=Bq c 1 (d.size-a)
 rw[AZ];unfold KT
 by_cases ha:0<=a/\a<=d.size-1
 ·have hb:FR a 0 (d.size-1)=true:=Di.2 ha
  have w1:IntKind.i64.wrap (d.size-a)=d.size-a:=Ad _ (by omega)
  rw[hb] at c1
  have hd:decide (d.isRun a c)=FR c 1 (d.size-a):=by unfold FR;refine decide_eq_decide.2 ?_;unfold AG.isRun;omega
  rw[hd]
  (try (simp -implicitDefEqProofs only[go_sem,AI,AD,w1]));repeat' first|(with_reducible first|exact tI|refine aI ?_ ?_|intro _)|((first|with_reducible refine AU ?_ ?_<;>intro _|(with_reducible refine isCall ?_);first|refine AF c1 ?_|refine AF c2 ?_|refine AF c3 ?_)<;>try (simp -implicitDefEqProofs only[go_sem,AI,AD,w1]))|simp (disch:=omega) only[Al]
  all_goals first|rfl|(simp_all;done)
 ·have hb:FR a 0 (d.size-1)=false:=Xx.2 ha
  rw[hb] at c1
  have hd:decide (d.isRun a c)=false:=decide_eq_false (by unfold AG.isRun;omega)
  rw[hd]
  (try (simp -implicitDefEqProofs only[go_sem,AI,AD]));repeat' first|(with_reducible first|exact tI|refine aI ?_ ?_|intro _)|((first|with_reducible refine AU ?_ ?_<;>intro _|(with_reducible refine isCall ?_);first|refine AF c1 ?_|refine AF c2 ?_|refine AF c3 ?_)<;>try (simp -implicitDefEqProofs only[go_sem,AI,AD]))|simp (disch:=omega) only[Al]
  all_goals first|omega|(simp<;>omega)|skip
theorem R8 (d:AG) (a c:Int):Ca E0 Pk [Cr d,.int .i64 a,.int .i64 c] (.tup [.agg [.int .i64 (d.run a c).1.1,.int .i64 (d.run a c).1.2],.int .i64 (d.run a c).2]):=by
 refine AW SM Aq (by simp) fun hwf=>?_
 have c1:=D_ d
 rw[AZ];unfold NA
 unfold AG.check at c1
 unfold AG.run
 cases h:d.ok with
 |false =>
  rw[h] at c1
  (try (simp -implicitDefEqProofs only[go_sem,AI,AD]));repeat' first|(with_reducible first|exact tI|refine aI ?_ ?_|intro _)|((first|with_reducible refine AU ?_ ?_<;>intro _|(with_reducible refine isCall ?_);first|refine AF c1 ?_)<;>try (simp -implicitDefEqProofs only[go_sem,AI,AD]))|simp (disch:=omega) only[Al]
  all_goals first|omega|(simp<;>omega)|skip
 |true =>
  rw[h] at c1
  have c2:=JX d h a c
  by_cases hr:d.isRun a c
  ·have c3:=R7 d h a c hr.1.1 hr.1.2 hr.2
   rw[decide_eq_true hr] at c2
   rw[if_pos hr]
   (try (simp -implicitDefEqProofs only[go_sem,AI,AD]));repeat' first|(with_reducible first|exact tI|refine aI ?_ ?_|intro _)|((first|with_reducible refine AU ?_ ?_<;>intro _|(with_reducible refine isCall ?_);first|refine AF c1 ?_|refine AF c2 ?_|refine AF c3 ?_)<;>try (simp -implicitDefEqProofs only[go_sem,AI,AD]))|simp (disch:=omega) only[Al]
   all_goals first|omega|(simp<;>omega)|skip
  ·rw[decide_eq_false hr] at c2
   rw[if_neg hr]
   (try (simp -implicitDefEqProofs only[go_sem,AI,AD]));repeat' first|(with_reducible first|exact tI|refine aI ?_ ?_|intro _)|((first|with_reducible refine AU ?_ ?_<;>intro _|(with_reducible refine isCall ?_);first|refine AF c1 ?_|refine AF c2 ?_)<;>try (simp -implicitDefEqProofs only[go_sem,AI,AD]))|simp (disch:=omega) only[Al]
   all_goals first|omega|(simp<;>omega)|skip
end Go.Pw
end

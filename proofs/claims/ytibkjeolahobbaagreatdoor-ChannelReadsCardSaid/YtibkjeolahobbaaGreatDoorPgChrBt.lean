/- A part of the proof. -/
import Derived.Test.YtibkjeolahobbaaGreatDoorPgChM
import Derived.Test.YtibkjeolahobbaaGreatDoorPgChG
set_option linter.all false
open Go Go.Pw Go.Proofs
namespace Go.Pw
set_option maxRecDepth 100000
set_option maxHeartbeats 3200000
section
theorem bd (r:List F) (n j:Nat) (h:j<n):(r.take n)[j]?.getD 0=r[j]?.getD 0:=by rw[List.getElem?_take,if_pos h]
attribute [local congr] Bm A' BA Au Bn Az A1 A0 Ar Al Af Aa Aw Ag Ax BM BQ BO BP BN BR BG Aj Ay Ak BE BX Ai BK BL BF BH BJ BI BC BD A_ Bp BB Av Ah
attribute [local irreducible] IntKind.wrap A3 Option.getD and or
theorem Pn (L P Q:Int) (n n2:Bool) (xs ms:List Int) (hxl:xs.length<=1000):CA E0 L4 [.agg [.int .i64 L,.int .i64 P,.int .i64 Q],.list n (Ab xs),.list n2 (Ab ms)] (.tup [.list (g_ L P Q xs ms).isEmpty (Ab (g_ L P Q xs ms)),.int .i64 (le L P Q xs ms)]):=by
 have c1:=Ek L P Q
 refine AL Om An (by simp) fun hwf=>?_
 rw[AR];unfold JD g_ le
 cases hw:C2 L P Q with
 |false =>
  rw[hw] at c1
  simp only[Bool.false_eq_true,if_false] at c1 ⊢
  (try (simp -implicitDefEqProofs only[go_sem]));repeat' first|(with_reducible first|exact tI|refine aI ?_ ?_|intro _)|((first|with_reducible refine AK ?_ ?_<;>intro _|(with_reducible refine isCall ?_);first|refine AE c1 ?_)<;>try (simp -implicitDefEqProofs only[go_sem]))|simp (disch:=omega) only[Ae]|((with_reducible refine Ao ?_);refine⟨(_,_,_),rfl,?_,?_⟩)|((with_reducible refine Ad ?_);refine⟨_,rfl,?_,?_⟩)
  all_goals first|rfl|(simp;done)|skip
 |true =>
  rw[hw] at c1
  simp only[if_true] at c1 ⊢
  obtain⟨l,p,q,rfl,rfl,rfl,b1,b2,b3,b4,b5,b6,b7,hc⟩:=IB hw
  have w0:IntKind.i64.wrap ((l:Int)-(p:Int))=((l-p:Nat):Int):=by rw[AZ _ (by omega)];omega
  have hql:q*l<=8*15:=Nat.mul_le_mul b7 b2
  have hqlp:q*(l-p)<=8*15:=Nat.mul_le_mul b7 (by omega)
  have w1:IntKind.i64.wrap ((q:Int)*(l:Int))=(q:Int)*(l:Int):=by rw[show (q:Int)*(l:Int)=((q*l:Nat):Int) by push_cast;rfl];exact AZ _ (by omega)
  have w2:IntKind.i64.wrap ((q:Int)*((l-p:Nat):Int))=(((l-p)*q:Nat):Int):=by rw[show (q:Int)*((l-p:Nat):Int)=((q*(l-p):Nat):Int) by push_cast;rfl,Nat.mul_comm (l-p) q];exact AZ _ (by omega)
  have c2:=Ge n xs ((q:Int)*(l:Int))
  cases hs:CP xs ((q:Int)*(l:Int)) with
  |false =>
   rw[hs] at c2
   simp only[Bool.false_eq_true,if_false]
   (try (simp -implicitDefEqProofs only[go_sem,w0,w1]));repeat' first|(with_reducible first|exact tI|refine aI ?_ ?_|intro _)|((first|with_reducible refine AK ?_ ?_<;>intro _|(with_reducible refine isCall ?_);first|refine AE c1 ?_|refine AE c2 ?_)<;>try (simp -implicitDefEqProofs only[go_sem,w0,w1]))|simp (disch:=omega) only[Ae]|((with_reducible refine Ao ?_);refine⟨(_,_,_),rfl,?_,?_⟩)|((with_reducible refine Ad ?_);refine⟨_,rfl,?_,?_⟩)
   all_goals first|rfl|(simp;done)|skip
  |true =>
   rw[hs] at c2
   simp only[if_true]
   have cp:=NU n2 ms xs.length (by omega)
   cases hm:Da ms xs.length with
   |false =>
    rw[hm] at cp
    simp only[Bool.false_eq_true,if_false]
    (try (simp -implicitDefEqProofs only[go_sem,w0,w1]));repeat' first|(with_reducible first|exact tI|refine aI ?_ ?_|intro _)|((first|with_reducible refine AK ?_ ?_<;>intro _|(with_reducible refine isCall ?_);first|refine AE c1 ?_|refine AE c2 ?_|refine AE cp ?_)<;>try (simp -implicitDefEqProofs only[go_sem,w0,w1]))|simp (disch:=omega) only[Ae]|((with_reducible refine Ao ?_);refine⟨(_,_,_),rfl,?_,?_⟩)|((with_reducible refine Ad ?_);refine⟨_,rfl,?_,?_⟩)
    all_goals first|rfl|(simp;done)|skip
   |true =>
    rw[hm] at cp
    simp only[if_true]
    obtain⟨hl,hf⟩:=K6 hs
    obtain⟨d,hd⟩:∃d,fs xs=d:=⟨_,rfl⟩
    rw[hd] at hf ⊢
    subst hf
    have hmk:=gJ hm
    have hmf:=nG hm
    obtain⟨mk,hMK⟩:∃mk,nt ms=mk:=⟨_,rfl⟩
    rw[hMK] at hmk hmf ⊢
    subst hmf
    rw[G6] at hl hmk hxl cp
    have hdl:=OW hl
    rw[hdl] at hmk
    have hmq:=SV b2 b7
    have hml:=VW hmk
    simp only[Int.toNat_natCast]
    have c3:=fun k hk=>LE q l k n d (by omega) (by omega) b7 hk hdl
    have hpm:=fun k=>@RU l q k (by omega) mk hmk
    have c4:=fun k b=>Pl l p false b (CI l q k d) (OU q k mk) b2 (by omega) b3 b4 (B' ..) (hpm k)
    have hO:∀k,G9 l p (CI l q k d) (OU q k mk)=Ve l p q d mk k:=fun k=>rfl
    simp only[hO] at c4
    obtain⟨m,hm2⟩:∃m,l-p=m:=⟨_,rfl⟩
    have hm1:1<=m:=by omega
    have hm15:m<=15:=by omega
    have hsome:=fun k r=>@Od l p q d mk k r
    have hno:=fun k hk=>@g9 l p q d mk k hk
    have hok:=@SY l p q d mk
    rw[hm2] at w0 w2 hok
    simp only[hm2] at hsome
    have hlq:m*q<=120:=SV hm15 b7
    have hlq1:0<m*q:=Nat.mul_pos (by omega) (by omega)
    obtain⟨N,hN⟩:∃N,m*q=N:=⟨_,rfl⟩
    rw[hN] at w2 hlq hlq1
    obtain⟨W,hW⟩:∃W,bD l p q d mk=W:=⟨_,rfl⟩
    rw[hW] at hok hsome
    have hf0:=bG m q W
    rw[hN] at hf0
    (try (simp -implicitDefEqProofs only[go_sem,w0,w1,w2,J3]));repeat' first|(with_reducible first|exact tI|refine aI ?_ ?_|intro _)|((first|with_reducible refine AK ?_ ?_<;>intro _|(with_reducible refine isCall ?_);first|refine AE c1 ?_|refine AE c2 ?_|refine AE cp ?_)<;>try (simp -implicitDefEqProofs only[go_sem,w0,w1,w2,J3]))|simp (disch:=omega) only[Ae]|((with_reducible refine Ao ?_);refine⟨(_,_,_),rfl,?_,?_⟩)|((with_reducible refine Ad ?_);refine⟨_,rfl,?_,?_⟩)
    all_goals first|omega|(simp<;>omega)|skip
    rw[←hf0]
    refine AX (α:=Nat) (l0:=?l1) (m0:=?m1) (fun x=>[(10,.d (.int .i64 (x:Int)))]) (fun x=>[(44,.row 3 1 false (Ab (iv (GK m q W x 0))))]) (fun x=>x<=q/\∀i,i<x->(Ve l p q d mk i).isSome=true) (fun x=>q-x) 0 ?h01 ?he1 ?he21 ?hI1 ?step1
    case h01=>(simp -implicitDefEqProofs only[go_sem];rfl)
    case he1=>rfl
    case he21=>rfl
    case' step1=>(rintro k hI;try dsimp only at hI)
    case' hI1=>try dsimp only
    ·exact⟨Nat.zero_le _,fun i hi=>absurd hi (by omega)⟩
    ·obtain⟨k1,k3⟩:=hI
     by_cases hk:k<q
     ·have hk':(k:Int)<(q:Int):=by omega
      have hwk:IntKind.i64.wrap ((k:Int)+1)=((k+1:Nat):Int):=by rw[AZ _ (by omega)];omega
      have hq0:¬(q:Int)=0:=by omega
      (try (simp -implicitDefEqProofs only[go_sem,hk']));repeat' first|(with_reducible first|exact tI|refine aI ?_ ?_|intro _)|((first|with_reducible refine AK ?_ ?_<;>intro _)<;>try (simp -implicitDefEqProofs only[go_sem,hk']))|simp (disch:=omega) only[Ae]|((with_reducible refine Ao ?_);refine⟨(_,_,_),rfl,?_,?_⟩)|((with_reducible refine Ad ?_);refine⟨_,rfl,?_,?_⟩)
      all_goals first|omega|(simp<;>omega)|skip
      refine AX (α:=Nat×Bool×(List Nat)) (l0:=?l2) (m0:=?m2) (fun x=>[(12,.d (.int .i64 (x.1:Int)))]) (fun x=>[(75,.row 3 1 x.2.1 (Ab (ni x.2.2)))]) (fun x=>x.1<=mk.length/\x.2.1=x.2.2.isEmpty/\x.2.2=OU q k (mk.take x.1)) (fun x=>mk.length-x.1) (0,true,[]) ?h02 ?he2 ?he22 ?hI2 ?step2
      case h02=>(simp -implicitDefEqProofs only[go_sem];rfl)
      case he2=>rfl
      case he22=>rfl
      case' step2=>(rintro⟨i,e,mm⟩ hI2;try dsimp only at hI2)
      case' hI2=>try dsimp only
      ·exact⟨Nat.zero_le _,rfl,rfl⟩
      ·obtain⟨i1,i2,i3⟩:=hI2
       change e=mm.isEmpty at i2
       have hmml:mm.length<=1000:=by
        have h1:mm.length<=(mk.take i).length:=by
         rw[i3];unfold OU;rw[List.length_map];exact List.length_filter_le ..
        rw[List.length_take] at h1;omega
       by_cases hi:i<mk.length
       ·have hi':(i:Int)<(mk.length:Int):=by omega
        have hwi:IntKind.i64.wrap ((i:Int)+1)=((i+1:Nat):Int):=by rw[AZ _ (by omega)];omega
        have hx:=XP q k i mk hi
        have hxl2:=hmk.lt (mk[i]?.getD 0) (get_mem hi)
        obtain⟨x,hxx⟩:∃x,mk[i]?.getD 0=x:=⟨_,rfl⟩
        rw[hxx] at hx hxl2
        have t1:Int.tmod (x:Int) (q:Int)=((x%q:Nat):Int):=WZ x q
        have t2:Int.tdiv (x:Int) (q:Int)=((x/q:Nat):Int):=Rq x q
        have hdv:=Nat.div_le_self x q
        by_cases hxk:x%q=k
        ·have hxk':((x%q:Nat):Int)=(k:Int):=by omega
         rw[if_pos hxk,←i3] at hx
         have hse:=Ws mm (x/q)
         obtain⟨y,hy⟩:∃y,x/q=y:=⟨_,rfl⟩
         rw[hy] at t2 hx hdv hse
         have w2:IntKind.i64.wrap (y:Int)=(y:Int):=AZ _ (by omega)
         (try (simp -implicitDefEqProofs only[go_sem,hi',hi,hwi,hxx,t1,t2,w2,hxk',hq0]));repeat' first|(with_reducible first|exact tI|refine aI ?_ ?_|intro _)|((first|with_reducible refine AK ?_ ?_<;>intro _)<;>try (simp -implicitDefEqProofs only[go_sem,hi',hi,hwi,hxx,t1,t2,w2,hxk',hq0]))|simp (disch:=omega) only[Ae]|((with_reducible refine Ao ?_);refine⟨(_,_,_),rfl,?_,?_⟩)|((with_reducible refine Ad ?_);refine⟨_,rfl,?_,?_⟩)
         all_goals first|omega|(simp<;>omega)|skip
         all_goals first|exact⟨hse,hx.symm⟩|exact hx.symm|exact hse|skip
        ·have hxk':¬((x%q:Nat):Int)=(k:Int):=by omega
         rw[if_neg hxk,←i3] at hx
         (try (simp -implicitDefEqProofs only[go_sem,hi',hi,hwi,hxx,t1,t2,hxk',hq0]));repeat' first|(with_reducible first|exact tI|refine aI ?_ ?_|intro _)|((first|with_reducible refine AK ?_ ?_<;>intro _)<;>try (simp -implicitDefEqProofs only[go_sem,hi',hi,hwi,hxx,t1,t2,hxk',hq0]))|simp (disch:=omega) only[Ae]|((with_reducible refine Ao ?_);refine⟨(_,_,_),rfl,?_,?_⟩)|((with_reducible refine Ad ?_);refine⟨_,rfl,?_,?_⟩)
         all_goals first|omega|(simp<;>omega)|skip
         all_goals first|exact⟨i2,hx.symm⟩|exact hx.symm|exact i2|skip
       ·have hi':¬(i:Int)<(mk.length:Int):=by omega
        have htk:mk.take i=mk:=List.take_of_length_le (by omega)
        rw[htk] at i3
        subst i3
        have c5:=c3 k hk
        have c6:=c4 k e
        rw[Bc] at c6
        have hsk:=hsome k
        have hnk:=hno k hk
        have hdec:=fun r h=>@Lg l p (CI l q k d) r (OU q k mk) (B' ..) (hpm k) h
        simp only[hO] at hdec
        obtain⟨O,hOO⟩:∃O,Ve l p q d mk k=O:=⟨_,rfl⟩
        rw[hOO] at c6 hsk hnk hdec
        cases O with
        |none =>
         rw[S2] at c6
         rw[hnk rfl,ap,an]
         (try (simp -implicitDefEqProofs only[go_sem,hi']));repeat' first|(with_reducible first|exact tI|refine aI ?_ ?_|intro _)|((first|with_reducible refine AK ?_ ?_<;>intro _|(with_reducible refine isCall ?_);first|refine AE c5 ?_|refine AE c6 ?_)<;>try (simp -implicitDefEqProofs only[go_sem,hi']))|simp (disch:=omega) only[Ae]|((with_reducible refine Ao ?_);refine⟨(_,_,_),rfl,?_,?_⟩)|((with_reducible refine Ad ?_);refine⟨_,rfl,?_,?_⟩)
         all_goals first|rfl|omega|(simp;done)|skip
        |some r =>
         rw[X_] at c6
         have hrl:=(hdec r rfl).2.1
         have hWr:=hsk r rfl
         have hk3:∀i,i<k+1->(Ve l p q d mk i).isSome=true:=fun i hi=>by
          rcases Nat.lt_succ_iff_lt_or_eq.1 hi with hi|rfl
          ·exact k3 i hi
          ·rw[hOO];rfl
         have hnx:=Sc (m:=m) (k:=k) W (show 0<q by omega)
         (try (simp -implicitDefEqProofs only[go_sem,hi']));repeat' first|(with_reducible first|exact tI|refine aI ?_ ?_|intro _)|((first|with_reducible refine AK ?_ ?_<;>intro _|(with_reducible refine isCall ?_);first|refine AE c5 ?_|refine AE c6 ?_)<;>try (simp -implicitDefEqProofs only[go_sem,hi']))|simp (disch:=omega) only[Ae]|((with_reducible refine Ao ?_);refine⟨(_,_,_),rfl,?_,?_⟩)|((with_reducible refine Ad ?_);refine⟨_,rfl,?_,?_⟩)
         all_goals first|omega|(simp<;>omega)|skip
         refine AX (α:=Nat) (l0:=?l3) (m0:=?m3) (fun x=>[(15,.d (.int .i64 (x:Int)))]) (fun x=>[(44,.row 3 1 false (Ab (iv (GK m q W k x))))]) (fun x=>x<=m) (fun x=>m-x) 0 ?h03 ?he3 ?he23 ?hI3 ?step3
         case h03=>(simp -implicitDefEqProofs only[go_sem];rfl)
         case he3=>rfl
         case he23=>rfl
         case' step3=>(rintro j hI3;try dsimp only at hI3)
         case' hI3=>try dsimp only
         ·exact Nat.zero_le _
         ·have hfl:=Ub m q W k j
          rw[hN] at hfl
          by_cases hj:j<m
          ·have hj':(j:Int)<(m:Int):=by omega
           have hwj:IntKind.i64.wrap ((j:Int)+1)=((j+1:Nat):Int):=by rw[AZ _ (by omega)];omega
           have hlt:=Oj hk hj
           rw[hN] at hlt
           have hst:=Ua (W:=W) hk hj
           rw[hWr,bd r m j hj] at hst
           have hmj:IntKind.i64.wrap ((j:Int)*(q:Int))=((j*q:Nat):Int):=by rw[show (j:Int)*(q:Int)=((j*q:Nat):Int) by push_cast;rfl];exact AZ _ (by omega)
           obtain⟨s,hs⟩:∃s,j*q=s:=⟨_,rfl⟩
           rw[hs] at hmj hst hlt
           have hma:IntKind.i64.wrap ((s:Int)+(k:Int))=((s+k:Nat):Int):=by rw[AZ _ (by omega)];omega
           have hjl:j<r.length:=by omega
           (try (simp -implicitDefEqProofs only[go_sem,hj',hwj,hmj,hma,hlt,hfl,hst,hjl]));repeat' first|(with_reducible first|exact tI|refine aI ?_ ?_|intro _)|((first|with_reducible refine AK ?_ ?_<;>intro _)<;>try (simp -implicitDefEqProofs only[go_sem,hj',hwj,hmj,hma,hlt,hfl,hst,hjl]))|simp (disch:=omega) only[Ae]|((with_reducible refine Ao ?_);refine⟨(_,_,_),rfl,?_,?_⟩)|((with_reducible refine Ad ?_);refine⟨_,rfl,?_,?_⟩)
           all_goals first|omega|(simp<;>omega)|skip
           all_goals first|rfl|skip
          ·have hj':¬(j:Int)<(m:Int):=by omega
           have hje:j=m:=by omega
           rw[hje,hnx]
           (try (simp -implicitDefEqProofs only[go_sem,Int.lt_irrefl,hwk]));repeat' first|(with_reducible first|exact tI|refine aI ?_ ?_|intro _)|((first|with_reducible refine AK ?_ ?_<;>intro _)<;>try (simp -implicitDefEqProofs only[go_sem,Int.lt_irrefl,hwk]))|simp (disch:=omega) only[Ae]|((with_reducible refine Ao ?_);refine⟨(_,_,_),rfl,?_,?_⟩)|((with_reducible refine Ad ?_);refine⟨_,rfl,?_,?_⟩)
           all_goals first|omega|(simp<;>omega)|skip
           all_goals first|exact hk3|exact hk3 _ (by assumption)|skip
     ·have hk':¬(k:Int)<(q:Int):=by omega
      have hke:k=q:=by omega
      have hgs:=hok fun i hi=>k3 i (by omega)
      have hfe:=Uc (m:=m) W (show 0<q by omega)
      have hB:0<(GW m q W).length:=by rw[F0,hN];exact hlq1
      rw[hgs,ao,am,J4 hB]
      rw[hke,hfe]
      (try (simp -implicitDefEqProofs only[go_sem,Int.lt_irrefl]));repeat' first|(with_reducible first|exact tI|refine aI ?_ ?_|intro _)|((first|with_reducible refine AK ?_ ?_<;>intro _)<;>try (simp -implicitDefEqProofs only[go_sem,Int.lt_irrefl]))|simp (disch:=omega) only[Ae]|((with_reducible refine Ao ?_);refine⟨(_,_,_),rfl,?_,?_⟩)|((with_reducible refine Ad ?_);refine⟨_,rfl,?_,?_⟩)
      all_goals first|rfl|omega|(simp;done)|skip
end
section
theorem pu {E:Cn}{t:Nat}{V:AN}{K:AV->B3->Prop}{f:FuncId}{xs:List AV}{ds:List D}{ety es:Nat}{nl:Bool}{l:List D}(h:jc E f ds ety es nl l) (ha:FT xs=some ds) (ht:t<EF) (hk:K (.own t (V.cn t)) (.fresh t (.row ety es nl l))):D3 E (some t) V f xs K :=
 .inr (.inr (.inl ⟨ds,t,ety,es,nl,l,rfl,ht,ha,h,hk⟩))
theorem W_ {E:Cn} {rs ety es nl l s}:oY E rs ety es nl l .ret s=G1 E s rs (cK s.V ety es nl l):=rfl
theorem Qb {E:Cn} {rs ety es nl l s}:oY E rs ety es nl l .normal s=G1 E s rs (cK s.V ety es nl l):=rfl
theorem W9 {V:AN} {ety es nl l o g}:cK V ety es nl l [.own o g]=(V.get o g=some (.row ety es nl l)):=rfl
theorem fX {E:Cn}{f:FuncId}{ds:List D}{ety es:Nat}{nl:Bool}{l:List D}(h:jc E f ds ety es nl l):CA E f ds (.list nl l):=fun w fb vs hfb hg hl hd =>
 (h w fb vs hfb hg hl hd).mono fun e w' ⟨v,he,hb,hv,hr⟩=>⟨v,he,hb,CN (hr.mono (A7.refl _ _) (fun b _ hh=>.inl hh) fun _ _ _=>rfl) fun b hb hf=>by have:=hv b hb;have:=hfb b hf;omega⟩
theorem kx (xs:List Int) {i:Nat}(h:i<xs.length):(EW xs).take (4*i)++I5 1 (xs[i]?.getD 0)=(EW xs).take (4*(i+1)):=by
 have h1:=Sa (f:=I5 1) (m:=4) (fun x=>Fn 1 x) xs i
 have hl:=JT xs
 rw[show 4*(i+1)=4*i+4 by omega,List.take_add]
 congr 1
 apply List.ext_getElem?
 intro k
 rw[List.getElem?_take]
 by_cases hk:k<4
 ·rw[if_pos hk,List.getElem?_drop]
  have:=h1 k h hk
  unfold EW
  rw[this,List.getElem?_eq_getElem h];rfl
 ·rw[if_neg hk]
  exact List.getElem?_eq_none (by rw[Fn];omega)
theorem fO {s:Int}{B:List Int}{i:Nat}(h:i<B.length):∃x:Nat,x<16/\(CG s B)[i]?.getD 0=(x:Int)/\((B1 s (EW B)).drop (4*i)).take 4=I5 1 (x:Int):=by
 have h1:=W5 s B h
 have hl:(B1 s (EW B)).length=4*B.length:=by rw[EP,JT]
 obtain⟨p,hp⟩:∃p,((B1 s (EW B)).drop (i*4)).take 4=p:=⟨_,rfl⟩
 have hpl:p.length=4:=by rw[←hp,List.length_take,List.length_drop,hl];omega
 have hpb:A8 p=true:=by rw[←hp];exact E1 (EC (IE ..) _) _
 rw[hp,List.take_add_one,List.getElem?_eq_getElem (by rw[CX];exact h)] at h1
 have h2:=List.append_cancel_left h1
 have h3:Gb 1 p=(CG s B)[i]'(by rw[CX];exact h):=by simpa using h2
 have h4:=U1 hpb (by omega)
 refine⟨(Gb 1 p).toNat,by omega,?_,?_⟩
 ·rw[List.getElem?_eq_getElem (by rw[CX];exact h),Option.getD_some,←h3];omega
 ·rw[Int.toNat_of_nonneg h4.1,nX hpl hpb,Nat.mul_comm 4 i,hp]
theorem kO {R:List Int}{f:Nat}{a b c d:Int}(h:(R.drop f).take 4=[a,b,c,d]):R[f]?.getD 0=a/\R[f+1]?.getD 0=b/\R[f+2]?.getD 0=c/\R[f+3]?.getD 0=d:=by
 have key:∀k,k<4->R[f+k]?.getD 0=[a,b,c,d][k]?.getD 0:=fun k hk=>by
  rw[←h,List.getElem?_take,if_pos hk,List.getElem?_drop]
 exact⟨key 0 (by omega),key 1 (by omega),key 2 (by omega),key 3 (by omega)⟩
theorem fN {s:Int}{B:List Int}{i x:Nat}(h:i<B.length) (hx:(CG s B)[i]?.getD 0=(x:Int)):(CG s B).take i++[(x:Int)]=(CG s B).take (i+1):=by
 have hl:i<(CG s B).length:=by rw[CX];exact h
 rw[List.take_add_one,List.getElem?_eq_getElem hl]
 rw[List.getElem?_eq_getElem hl,Option.getD_some] at hx
 rw[hx];rfl
def cG (c:AY) (X:List Int):Nat->List Int
 |0=>c.mark
 |k+1=>c.mark++c.flat (X.take (k+1))
theorem RP (c:AY) (X:List Int) (k:Nat):cG c X k=c.mark++c.flat (X.take k):=by cases k<;>simp[cG,AY.flat]
theorem cF (c:AY) (X:List Int) {k y:Nat}(h:k<X.length) (hx:X[k]?.getD 0=(y:Int)):cG c X k++c.code.stm y=cG c X (k+1):=by
 have:=S9 c X h
 rw[hx,Int.toNat_natCast] at this
 rw[RP,RP,List.append_assoc,this]
attribute [local congr] Bm A' BA Au Bn Az A1 A0 Ar Al Af Aa Aw Ag Ax BM BQ BO BP BN BR BG Aj Ay Ak BE BX Ai BK BL BF BH BJ BI BC BD A_ Bp BB Av Ah
attribute [local irreducible] IntKind.wrap A3 Option.getD and or
theorem SD (c:AY):CA E0 PP [DX c] (.tup [.int .i64 (if c.ok=true then (c.tot:Int) else 0),.int .i64 (JU c)]):=by
 have c1:=EG c
 refine AL Ss An (by simp) fun hwf=>?_
 rw[AR];unfold My
 rcases hok:c.ok with _|_
 ·rw[Vq hok] at c1 ⊢
  (try (simp -implicitDefEqProofs only[go_sem,AP,AO]));repeat' first|(with_reducible first|exact tI|refine aI ?_ ?_|intro _)|((first|with_reducible refine AK ?_ ?_<;>intro _|(with_reducible refine isCall ?_);first|refine AE c1 ?_)<;>try (simp -implicitDefEqProofs only[go_sem,AP,AO]))|simp (disch:=omega) only[Ae]
  all_goals first|rfl|skip
 ·have hk:=HT hok
  have hm:=hk.markl
  have cT:=KG c hk.wev hk.code (by omega)
  rw[Sh hok] at c1 ⊢
  (try (simp -implicitDefEqProofs only[go_sem,AP,AO]));repeat' first|(with_reducible first|exact tI|refine aI ?_ ?_|intro _)|((first|with_reducible refine AK ?_ ?_<;>intro _|(with_reducible refine isCall ?_);first|refine AE c1 ?_|refine AE cT ?_)<;>try (simp -implicitDefEqProofs only[go_sem,AP,AO]))|simp (disch:=omega) only[Ae]
  all_goals first|rfl|skip
theorem HC (c:AY) (nb:Bool) (xs:List Int) (hs:C1 c.seed 1 127=true) (hl:xs.length<=32) (h0:0<xs.length) (hx:∀x,x∈xs->0<=x/\x<=15) :
  jc E0 F5 [DX c,.list nb (Ab xs)] 3 1 false (Ab (CG c.seed xs)):=by
 have hnl:=JT xs
 refine Y6 Md An (by simp) fun hwf=>?_
 rw[AR];unfold Hg
 (try (simp -implicitDefEqProofs only[go_sem,AP,AO]));repeat' first|(with_reducible first|exact tI|refine aI ?_ ?_|intro _)|((first|with_reducible refine AK ?_ ?_<;>intro _)<;>try (simp -implicitDefEqProofs only[go_sem,AP,AO]))|simp (disch:=omega) only[Ae]|((with_reducible refine Ao ?_);refine⟨(_,_,_),rfl,?_,?_⟩)|((with_reducible refine Ap ?_);refine⟨(_,_),rfl,?_,?_⟩)
 all_goals first|omega|(simp<;>omega)|skip
 refine AX (α:=Nat×Bool) (l0:=?l1) (m0:=?m1) (fun x=>[(6,.d (.int .i64 (x.1:Int)))]) (fun x=>[(23,.row 3 1 x.2 (Ab ((EW xs).take (4*x.1))))]) (fun x=>x.1<=xs.length/\x.2=decide (x.1=0)) (fun x=>xs.length-x.1) (0,true) ?h01 ?he1 ?he21 ?hI1 ?step1
 case h01=>(simp -implicitDefEqProofs only[go_sem];rfl)
 case he1=>rfl
 case he21=>rfl
 case' step1=>(rintro⟨i,nl⟩ hI;try dsimp only at hI)
 case' hI1=>try dsimp only
 ·exact⟨Nat.zero_le _,rfl⟩
 ·obtain⟨i1,i2⟩:=hI
  change nl=decide (i=0) at i2
  subst i2
  by_cases hi:i<xs.length
  ·have hi':(i:Int)<(xs.length:Int):=by omega
   have hwi:IntKind.i64.wrap ((i:Int)+1)=((i+1:Nat):Int):=by rw[AZ _ (by omega)];omega
   have hxm:=hx _ (Dd hi)
   have hst:=kx xs hi
   obtain⟨x,hx⟩:∃x,xs[i]?.getD 0=x:=⟨_,rfl⟩
   rw[hx] at hxm hst
   obtain⟨y,rfl⟩:∃y:Nat,x=(y:Int):=⟨x.toNat,by omega⟩
   have c1:=JA y (by omega)
   have hwl:=Fn 1 (y:Int)
   have hl4:((EW xs).take (4*i)).length<=128:=by rw[List.length_take];omega
   have hwe:I5 1 (y:Int)≠[]:=fun e=>by rw[e] at hwl;simp at hwl
   have hfe:false=decide (i+1=0):=by simp
   have hwf2:(I5 1 (y:Int)).isEmpty=false:=Fe hwe
   (try (simp -implicitDefEqProofs only[go_sem,AP,AO,hi',hi,hx,hwi,hwf2]));repeat' first|(with_reducible first|exact tI|refine aI ?_ ?_|intro _)|((first|with_reducible refine AK ?_ ?_<;>intro _|(with_reducible refine isCall ?_);first|refine AE c1 ?_)<;>try (simp -implicitDefEqProofs only[go_sem,AP,AO,hi',hi,hx,hwi,hwf2]))|simp (disch:=omega) only[Ae]|((with_reducible refine Ao ?_);refine⟨(_,_,_),rfl,?_,?_⟩)|((with_reducible refine Ap ?_);refine⟨(_,_),rfl,?_,?_⟩)
   all_goals first|omega|(simp<;>omega)|skip
   rw[hst]
   exact⟨(i+1,false),rfl,⟨by show i+1<=xs.length;omega,hfe⟩,by show xs.length-(i+1)<xs.length-i;omega⟩
  ·have hi':¬(i:Int)<(xs.length:Int):=by omega
   have htk:(EW xs).take (4*i)=EW xs:=List.take_of_length_le (by omega)
   have hi0:decide (i=0)=false:=decide_eq_false (by omega)
   rw[htk,hi0]
   have hso:Hc c.seed (EW xs)=(B1 c.seed (EW xs),0):=OB (by unfold DU;rw[hs,UR,decide_eq_true (by omega)];simp only[Bool.and_self])
   have c2:=NV c.seed false (EW xs)
   rw[hso] at c2
   have hr1:=EP c.seed (EW xs)
   have hpart:=fun i hi=>@fO c.seed xs i hi
   obtain⟨R,hR⟩:∃R,B1 c.seed (EW xs)=R:=⟨_,rfl⟩
   rw[hR] at c2 hr1
   simp only[hR] at hpart
   have hRe:R.isEmpty=false:=Fe (fun e=>by rw[e] at hr1;simp at hr1;omega)
   rw[hRe] at c2
   (try (simp -implicitDefEqProofs only[go_sem,AP,AO,hi']));repeat' first|(with_reducible first|exact tI|refine aI ?_ ?_|intro _)|((first|with_reducible refine AK ?_ ?_<;>intro _|(with_reducible refine isCall ?_);first|refine AE c2 ?_)<;>try (simp -implicitDefEqProofs only[go_sem,AP,AO,hi']))|simp (disch:=omega) only[Ae]|((with_reducible refine Ao ?_);refine⟨(_,_,_),rfl,?_,?_⟩)|((with_reducible refine Ap ?_);refine⟨(_,_),rfl,?_,?_⟩)
   all_goals first|omega|(simp<;>omega)|skip
   refine AX (α:=Nat×Bool×Int) (l0:=?l2) (m0:=?m2) (fun x=>[(10,.d (.int .i64 x.2.2))]) (fun x=>[(64,.row 3 1 x.2.1 (Ab ((CG c.seed xs).take x.1)))]) (fun x=>x.1<=xs.length/\x.2.1=decide (x.1=0)/\x.2.2=((4*x.1:Nat):Int)) (fun x=>xs.length-x.1) (0,true,0) ?h02 ?he2 ?he22 ?hI2 ?step2
   case h02=>(simp -implicitDefEqProofs only[go_sem];rfl)
   case he2=>rfl
   case he22=>rfl
   case' step2=>(rintro⟨j,nl,a⟩ hI2;try dsimp only at hI2)
   case' hI2=>try dsimp only
   ·exact⟨Nat.zero_le _,rfl,rfl⟩
   ·obtain⟨j1,j2,j3⟩:=hI2
    change nl=decide (j=0) at j2
    change a=((4*j:Nat):Int) at j3
    subst j2
    subst j3
    by_cases hj:j<xs.length
    ·obtain⟨x,hx1,hx2,hx3⟩:=hpart j hj
     have hst:=fN hj hx2
     obtain⟨y0,hy0⟩:∃y,(x:Int)/8%2=y:=⟨_,rfl⟩
     obtain⟨y1,hy1⟩:∃y,(x:Int)/4%2=y:=⟨_,rfl⟩
     obtain⟨y2,hy2⟩:∃y,(x:Int)/2%2=y:=⟨_,rfl⟩
     obtain⟨y3,hy3⟩:∃y,(x:Int)/1%2=y:=⟨_,rfl⟩
     have hw1:I5 1 (x:Int)=[y0,y1,y2,y3]:=by rw[←hy0,←hy1,←hy2,←hy3];rfl
     rw[hw1] at hx3
     obtain⟨F,hF⟩:∃F,4*j=F:=⟨_,rfl⟩
     rw[hF] at hx3
     rw[hF]
     obtain⟨b0,b1,b2,b3⟩:=kO hx3
     have g0:(F:Int)<(R.length:Int):=by omega
     have g0n:F<R.length:=by omega
     have g1:F+1<R.length:=by omega
     have g2:F+2<R.length:=by omega
     have g3:F+3<R.length:=by omega
     have q1:IntKind.i64.wrap ((F:Int)+1)=((F+1:Nat):Int):=by rw[AZ _ (by omega)];omega
     have q2:IntKind.i64.wrap ((F:Int)+2)=((F+2:Nat):Int):=by rw[AZ _ (by omega)];omega
     have q3:IntKind.i64.wrap ((F:Int)+3)=((F+3:Nat):Int):=by rw[AZ _ (by omega)];omega
     have q4:IntKind.i64.wrap ((F:Int)+4)=((4*(j+1):Nat):Int):=by rw[AZ _ (by omega)];omega
     have v1:IntKind.i64.wrap (8*y0)=8*y0:=AZ _ (by omega)
     have v2:IntKind.i64.wrap (4*y1)=4*y1:=AZ _ (by omega)
     have v3:IntKind.i64.wrap (8*y0+4*y1)=8*y0+4*y1:=AZ _ (by omega)
     have v4:IntKind.i64.wrap (2*y2)=2*y2:=AZ _ (by omega)
     have v5:IntKind.i64.wrap (8*y0+4*y1+2*y2)=8*y0+4*y1+2*y2:=AZ _ (by omega)
     have v6:IntKind.i64.wrap (8*y0+4*y1+2*y2+y3)=(x:Int):=by rw[AZ _ (by omega)];omega
     have hl32:((CG c.seed xs).take j).length<=32:=by rw[List.length_take];omega
     have hfe:false=decide (j+1=0):=by simp
     (try (simp -implicitDefEqProofs only[go_sem,g0,g0n,g1,g2,g3,q1,q2,q3,q4,b0,b1,b2,b3,v1,v2,v3,v4,v5,v6,hst]));repeat' first|(with_reducible first|exact tI|refine aI ?_ ?_|intro _)|((first|with_reducible refine AK ?_ ?_<;>intro _)<;>try (simp -implicitDefEqProofs only[go_sem,g0,g0n,g1,g2,g3,q1,q2,q3,q4,b0,b1,b2,b3,v1,v2,v3,v4,v5,v6,hst]))|simp (disch:=omega) only[Ae]|((with_reducible refine Ao ?_);refine⟨(_,_,_),rfl,?_,?_⟩)|((with_reducible refine Ap ?_);refine⟨(_,_),rfl,?_,?_⟩)
     all_goals first|omega|(simp<;>omega)|skip
     all_goals exact⟨(j+1,false,_),rfl,⟨by show j+1<=xs.length;omega,hfe,rfl⟩,by show xs.length-(j+1)<xs.length-j;omega⟩
    ·have hj':¬((4*j:Nat):Int)<(R.length:Int):=by omega
     have hje:j=xs.length:=by omega
     have htk:(CG c.seed xs).take j=CG c.seed xs:=List.take_of_length_le (by rw[CX];omega)
     have hj0:decide (j=0)=false:=decide_eq_false (by omega)
     rw[htk,hj0]
     (try (simp -implicitDefEqProofs only[go_sem,hj',W_,Qb,W9]));repeat' first|(with_reducible first|exact tI|refine aI ?_ ?_|intro _)|((first|with_reducible refine AK ?_ ?_<;>intro _)<;>try (simp -implicitDefEqProofs only[go_sem,hj',W_,Qb,W9]))|simp (disch:=omega) only[Ae]|((with_reducible refine Ao ?_);refine⟨(_,_,_),rfl,?_,?_⟩)|((with_reducible refine Ap ?_);refine⟨(_,_),rfl,?_,?_⟩)
     all_goals first|omega|(simp<;>omega)|skip
     all_goals first|rfl|skip
theorem Ma (c:AY) (nb:Bool) (xs:List Int) (hs:C1 c.seed 1 127=true) (hl:xs.length<=32) (h0:0<xs.length) (hx:∀x,x∈xs->0<=x/\x<=15) :
 CA E0 F5 [DX c,.list nb (Ab xs)] (.list false (Ab (CG c.seed xs))):=fX (HC c nb xs hs hl h0 hx)
theorem Pj (c:AY) (hk:HU c) (nb:Bool) (xs:List Int) (hl:xs.length=c.syms) (hx:∀x,x∈xs->0<=x/\x<=15) :
  CA E0 Lz [DX c,.list nb (Ab xs)] (.list false (Ab (MZ c xs))):=by
 have hm:=hk.markl
 have hs:=hk.syms
 have hz:=Ha hk.code
 have c1:=Ma c nb xs hk.seed (by omega) (by omega) hx
 have hX:=Hd xs c.seed
 have hXl:=CX xs c.seed
 unfold MZ
 obtain⟨X,hXX⟩:∃X,CG c.seed xs=X:=⟨_,rfl⟩
 rw[hXX] at c1 hX hXl ⊢
 have hne:¬c.mark=[]:=fun e=>by rw[e] at hm;simp at hm
 refine AL P6 An (by simp) fun hwf=>?_
 rw[AR];unfold KO
 (try (simp -implicitDefEqProofs only[go_sem,AP,AO,hne]));repeat' first|(with_reducible first|exact tI|refine aI ?_ ?_|intro _)|((first|with_reducible refine AK ?_ ?_<;>intro _|(with_reducible refine isCall ?_);first|refine AE c1 ?_)<;>try (simp -implicitDefEqProofs only[go_sem,AP,AO,hne]))|simp (disch:=omega) only[Ae]|((with_reducible refine Ad ?_);refine⟨_,rfl,?_,?_⟩)
 all_goals first|omega|(simp<;>omega)|skip
 refine AX (α:=Nat) (l0:=?l3) (m0:=?m3) (fun x=>[(7,.d (.int .i64 (x:Int)))]) (fun x=>[(11,.row 3 1 false (Ab (cG c X x)))]) (fun x=>x<=X.length) (fun x=>X.length-x) 0 ?h03 ?he3 ?he23 ?hI3 ?step3
 case h03=>(simp -implicitDefEqProofs only[go_sem];rfl)
 case he3=>rfl
 case he23=>rfl
 case' step3=>(rintro k hI;try dsimp only at hI)
 case' hI3=>try dsimp only
 ·exact Nat.zero_le _
 ·by_cases hks:k<X.length
  ·have hk':(k:Int)<(X.length:Int):=by omega
   have hwk:IntKind.i64.wrap ((k:Int)+1)=((k+1:Nat):Int):=by rw[AZ _ (by omega)];omega
   have hxm:=hX _ (Dd hks)
   obtain⟨x,hx⟩:∃x,X[k]?.getD 0=x:=⟨_,rfl⟩
   rw[hx] at hxm
   obtain⟨y,rfl⟩:∃y:Nat,x=(y:Int):=⟨x.toNat,by omega⟩
   have hst:=cF c X hks hx
   have c2:=Ex c hk.code y (by omega)
   have hsl:=Jx c.code y
   have hfl:(c.flat (X.take k)).length<=32*20:=by rw[MW,List.length_take];exact Nat.mul_le_mul (by omega) hz.2
   have hne0:=U2 hk.code y
   have hpl:(cG c X k).length<=16+32*20:=by rw[RP,List.length_append];omega
   (try (simp -implicitDefEqProofs only[go_sem,AP,AO,hk',hks,hwk,hx,hsl,hst]));repeat' first|(with_reducible first|exact tI|refine aI ?_ ?_|intro _)|((first|with_reducible refine AK ?_ ?_<;>intro _|(with_reducible refine isCall ?_);first|refine AE c2 ?_)<;>try (simp -implicitDefEqProofs only[go_sem,AP,AO,hk',hks,hwk,hx,hsl,hst]))|simp (disch:=omega) only[Ae]|((with_reducible refine Ad ?_);refine⟨_,rfl,?_,?_⟩)
   all_goals first|omega|(simp<;>omega)|skip
   all_goals exact⟨k+1,rfl,hks,by omega⟩
  ·have hk':¬(k:Int)<(X.length:Int):=by omega
   have htk:X.take k=X:=List.take_of_length_le (by omega)
   rw[RP,htk]
   (try (simp -implicitDefEqProofs only[go_sem,hk']));repeat' first|(with_reducible first|exact tI|refine aI ?_ ?_|intro _)|((first|with_reducible refine AK ?_ ?_<;>intro _)<;>try (simp -implicitDefEqProofs only[go_sem,hk']))|simp (disch:=omega) only[Ae]|((with_reducible refine Ad ?_);refine⟨_,rfl,?_,?_⟩)
   all_goals first|omega|(simp<;>omega)|skip
   all_goals first|rfl|skip
theorem kC {L P Q:Int}{d:List Int}:∀x,x∈Tc L P Q d->0<=x/\x<=15:=fun x hx=>by
 unfold Tc at hx
 split at hx
 ·split at hx
  ·exact gU _ x hx
  ·cases hx
 ·cases hx
theorem Qz (c:AY) (nl:Bool) (d:List Int):CA E0 NC [DX c,.list nl (Ab d)] (.tup [.list (eP c d).isEmpty (Ab (eP c d)),.int .i64 (jf c d)]):=by
 have c1:=EG c
 have c2:=Pm c.L c.P c.Q nl d
 refine AL Q6 An (by simp) fun hwf=>?_
 rw[AR];unfold LF eP jf
 rcases hok:c.ok with _|_
 ·rw[Vq hok] at c1
  simp only[Bool.false_eq_true,if_false]
  (try (simp -implicitDefEqProofs only[go_sem,AP,AO]));repeat' first|(with_reducible first|exact tI|refine aI ?_ ?_|intro _)|((first|with_reducible refine AK ?_ ?_<;>intro _|(with_reducible refine isCall ?_);first|refine AE c1 ?_)<;>try (simp -implicitDefEqProofs only[go_sem,AP,AO]))|simp (disch:=omega) only[Ae]
  all_goals first|rfl|skip
 ·have hk:=HT hok
  rw[Sh hok] at c1
  simp only[if_true]
  by_cases hsp:Yc c.L c.P c.Q d=0
  ·have hbl:=U6 hk.wev hsp
   have hs:=hk.syms
   have hm:=hk.markl
   rw[if_pos hsp,if_pos hsp]
   rw[hsp] at c2
   have c3:=fun nb=>Pj c hk nb (Tc c.L c.P c.Q d) hbl kC
   obtain⟨B,hB⟩:∃B,Tc c.L c.P c.Q d=B:=⟨_,rfl⟩
   rw[hB] at c2 c3 hbl ⊢
   have hse:(MZ c B).isEmpty=false:=Fe fun e=>by have:=aY c B;rw[e] at this;simp at this;omega
   rw[hse]
   obtain⟨S,hS⟩:∃S,MZ c B=S:=⟨_,rfl⟩
   rw[hS] at c3 ⊢
   (try (simp -implicitDefEqProofs only[go_sem,AP,AO]));repeat' first|(with_reducible first|exact tI|refine aI ?_ ?_|intro _)|((first|with_reducible refine AK ?_ ?_<;>intro _|(with_reducible refine isCall ?_);first|refine AE c1 ?_|refine AE c2 ?_|refine AE (c3 _) ?_)<;>try (simp -implicitDefEqProofs only[go_sem,AP,AO]))|simp (disch:=omega) only[Ae]
   all_goals first|rfl|skip
  ·have h51:Yc c.L c.P c.Q d=51:=by
    unfold Yc at hsp ⊢
    rw[if_pos hk.wev] at hsp ⊢
    split at hsp
    ·exact absurd rfl hsp
    ·rename_i h;rw[if_neg h]
   rw[if_neg hsp,if_neg hsp]
   rw[h51] at c2
   obtain⟨B,hB⟩:∃B,Tc c.L c.P c.Q d=B:=⟨_,rfl⟩
   rw[hB] at c2
   (try (simp -implicitDefEqProofs only[go_sem,AP,AO]));repeat' first|(with_reducible first|exact tI|refine aI ?_ ?_|intro _)|((first|with_reducible refine AK ?_ ?_<;>intro _|(with_reducible refine isCall ?_);first|refine AE c1 ?_|refine AE c2 ?_)<;>try (simp -implicitDefEqProofs only[go_sem,AP,AO]))|simp (disch:=omega) only[Ae]
   all_goals first|rfl|skip
end
section
def rJ (c:AY) (a b:List Int) (i:Nat):Nat:=if c.part a 0 i=c.part b 0 i then 0 else 1
def sC (c:AY) (a b:List Int) (n:Nat):List Int:=(List.range c.Q.toNat).map fun k=>((Mn (rJ c a b) c.Q.toNat n k:Nat):Int)
def dR (c:AY) (bits:List Int):D:=.tup [.int .i64 (match c.find bits with|some a=>(a:Int)|none=>0),.bool (c.find bits).isSome]
attribute [local congr] Bm A' BA Au Bn Az A1 A0 Ar Al Af Aa Aw Ag Ax BM BQ BO BP BN BR BG Aj Ay Ak BE BX Ai BK BL BF BH BJ BI BC BD A_ Bp BB Av Ah
attribute [local irreducible] IntKind.wrap A3 Option.getD and or
theorem OM (nl:Bool) (xs:List Int):CA E0 Kl [.list nl (Ab xs)] (.bool (Ps xs)):=by
 have c1:=Fq nl xs
 refine AL Ol An (by simp) fun hwf=>?_
 rw[AR];unfold JC Ps
 obtain⟨sb,hsb⟩:∃sb,A8 xs=sb:=⟨_,rfl⟩
 rw[hsb] at c1 ⊢
 by_cases hl:xs.length<=1000
 ·have hl':(xs.length:Int)<=1000:=by omega
  (try (simp -implicitDefEqProofs only[go_sem,hl']));repeat' first|(with_reducible first|exact tI|refine aI ?_ ?_|intro _)|((first|with_reducible refine AK ?_ ?_<;>intro _|(with_reducible refine isCall ?_);first|refine AE c1 ?_)<;>try (simp -implicitDefEqProofs only[go_sem,hl']))|simp (disch:=omega) only[Ae]
  all_goals first|rfl|(rename_i h;rw[h];simp[hl];done)|skip
 ·have hl':¬(xs.length:Int)<=1000:=by omega
  (try (simp -implicitDefEqProofs only[go_sem,hl']));repeat' first|(with_reducible first|exact tI|refine aI ?_ ?_|intro _)|((first|with_reducible refine AK ?_ ?_<;>intro _|(with_reducible refine isCall ?_);first|refine AE c1 ?_)<;>try (simp -implicitDefEqProofs only[go_sem,hl']))|simp (disch:=omega) only[Ae]
  all_goals first|rfl|(simp[hl];done)|skip
theorem SB (c:AY) (hk:HU c) (nb:Bool) (bits:List Int) (hb:bits.length<=1000):CA E0 PN [DX c,.list nb (Ab bits)] (dR c bits):=by
 have hm:=hk.markl
 have ht:=hk.tot
 have c1:=KG c hk.wev hk.code (by omega)
 refine AL Sq An (by simp) fun hwf=>?_
 rw[AR];unfold Mw
 (try (simp -implicitDefEqProofs only[go_sem,AP,AO]));repeat' first|(with_reducible first|exact tI|refine aI ?_ ?_|intro _)|((first|with_reducible refine AK ?_ ?_<;>intro _)<;>try (simp -implicitDefEqProofs only[go_sem,AP,AO]))|simp (disch:=omega) only[Ae]|((with_reducible refine Ad ?_);refine⟨_,rfl,?_,?_⟩)
 all_goals first|omega|(simp<;>omega)|skip
 refine AX (α:=Nat) (l0:=?l1) (m0:=?m1) (fun x=>[(6,.d (.int .i64 (x:Int)))]) (fun x=>[]) (fun x=>x<=bits.length+1/\∀j,j<x->c.errs<Cs c.mark (bits.drop j)) (fun x=>bits.length+1-x) 0 ?h01 ?he1 ?he21 ?hI1 ?step1
 case h01=>(simp -implicitDefEqProofs only[go_sem];rfl)
 case he1=>rfl
 case he21=>rfl
 case' step1=>(rintro a hI;try dsimp only at hI)
 case' hI1=>try dsimp only
 ·exact⟨Nat.zero_le _,fun j hj=>by omega⟩
 ·obtain⟨i1,i2⟩:=hI
  have w1:IntKind.i64.wrap ((a:Int)+(c.tot:Int))=((a+c.tot:Nat):Int):=by rw[AZ _ (by omega)];omega
  have w3:IntKind.i64.wrap ((a:Int)+1)=((a+1:Nat):Int):=by rw[AZ _ (by omega)];omega
  by_cases ha:a+c.tot<=bits.length
  ·have g1:((a+c.tot:Nat):Int)<=(bits.length:Int):=by omega
   have htm:c.mark.length<=c.tot:=by unfold AY.tot;omega
   have c2:=NW c.nm nb c.mark bits (a:Int) (by omega) (by omega) (by omega) (by omega)
   rw[Int.toNat_natCast] at c2
   by_cases hd:Cs c.mark (bits.drop a)<=c.errs
   ·have hf:=Xj i2 ha hd
    have hr:dR c bits=.tup [.int .i64 (a:Int),.bool true]:=by unfold dR;rw[hf];rfl
    rw[hr]
    (try (simp -implicitDefEqProofs only[go_sem,AP,AO,w1,g1,hd]));repeat' first|(with_reducible first|exact tI|refine aI ?_ ?_|intro _)|((first|with_reducible refine AK ?_ ?_<;>intro _|(with_reducible refine isCall ?_);first|refine AE c1 ?_|refine AE c2 ?_)<;>try (simp -implicitDefEqProofs only[go_sem,AP,AO,w1,g1,hd]))|simp (disch:=omega) only[Ae]|((with_reducible refine Ad ?_);refine⟨_,rfl,?_,?_⟩)
    all_goals first|omega|(simp<;>omega)|skip
    all_goals first|rfl|skip
   ·(try (simp -implicitDefEqProofs only[go_sem,AP,AO,w1,g1,hd,w3]));repeat' first|(with_reducible first|exact tI|refine aI ?_ ?_|intro _)|((first|with_reducible refine AK ?_ ?_<;>intro _|(with_reducible refine isCall ?_);first|refine AE c1 ?_|refine AE c2 ?_)<;>try (simp -implicitDefEqProofs only[go_sem,AP,AO,w1,g1,hd,w3]))|simp (disch:=omega) only[Ae]|((with_reducible refine Ad ?_);refine⟨_,rfl,?_,?_⟩)
    all_goals first|omega|(simp<;>omega)|skip
    rename_i j hj
    by_cases e:j=a
    ·rw[e];omega
    ·exact i2 j (by omega)
  ·have g1:¬((a+c.tot:Nat):Int)<=(bits.length:Int):=by omega
   have hf:=Xi i2 ha
   have hr:dR c bits=.tup [.int .i64 0,.bool false]:=by unfold dR;rw[hf];rfl
   rw[hr]
   (try (simp -implicitDefEqProofs only[go_sem,AP,AO,w1,g1]));repeat' first|(with_reducible first|exact tI|refine aI ?_ ?_|intro _)|((first|with_reducible refine AK ?_ ?_<;>intro _|(with_reducible refine isCall ?_);first|refine AE c1 ?_)<;>try (simp -implicitDefEqProofs only[go_sem,AP,AO,w1,g1]))|simp (disch:=omega) only[Ae]|((with_reducible refine Ad ?_);refine⟨_,rfl,?_,?_⟩)
   all_goals first|omega|(simp<;>omega)|skip
   all_goals first|rfl|skip
end
end Go.Pw

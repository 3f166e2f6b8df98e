/- A part of the proof. -/
import Derived.Test.YtibkjeolahobbaaGreatDoorPgChM
import Derived.Test.YtibkjeolahobbaaGreatDoorPgChG
import Derived.Test.YtibkjeolahobbaaGreatDoorPgChJa
set_option linter.all false
open Go Go.Pw Go.Proofs
namespace Go.Pw
set_option maxRecDepth 100000
set_option maxHeartbeats 3200000
section
theorem aM (r:List F) (n j:Nat) (h:j<n):(r.take n)[j]?.getD 0=r[j]?.getD 0:=by rw[List.getElem?_take,if_pos h]
attribute [local irreducible] IntKind.wrap Ai Option.getD and or
theorem Oc (L P Q:Int) (n n2:Bool) (xs ms:List Int) (hxl:xs.length<=1000):BR E0 K8 [.agg [.int .i64 L,.int .i64 P,.int .i64 Q],.list n (Aa xs),.list n2 (Aa ms)] (.tup [.list (dU L P Q xs ms).isEmpty (Aa (dU L P Q xs ms)),.int .i64 (jP L P Q xs ms)]):=by
 have c1:=Fw L P Q
 refine AM Nj Af (by simp) fun hwf=>?_
 rw[AQ];unfold II dU jP
 cases hw:CL L P Q with
 |false =>
  rw[hw] at c1
  simp only[Bool.false_eq_true,if_false] at c1 ⊢
  (try (simp -implicitDefEqProofs only[go_sem]));repeat' first|(with_reducible first|exact tI|refine aI ?_ ?_|intro _)|((first|with_reducible refine AJ ?_ ?_<;>intro _|(with_reducible refine isCall ?_);first|refine AE c1 ?_)<;>try (simp -implicitDefEqProofs only[go_sem]))|simp (disch:=omega) only[Ad]|((with_reducible first|apply Ag|apply Ab);exact rfl)
  all_goals first|rfl|(simp;done)|skip
 |true =>
  rw[hw] at c1
  simp only[if_true] at c1 ⊢
  obtain⟨l,p,q,rfl,rfl,rfl,b1,b2,b3,b4,b5,b6,b7,hc⟩:=I7 hw
  have w0:IntKind.i64.wrap ((l:Int)-(p:Int))=((l-p:Nat):Int):=by rw[AZ _ (by omega)];omega
  have hql:q*l<=8*15:=Nat.mul_le_mul b7 b2
  have hqlp:q*(l-p)<=8*15:=Nat.mul_le_mul b7 (by omega)
  have w1:IntKind.i64.wrap ((q:Int)*(l:Int))=(q:Int)*(l:Int):=by rw[show (q:Int)*(l:Int)=((q*l:Nat):Int) by push_cast;rfl];exact AZ _ (by omega)
  have w2:IntKind.i64.wrap ((q:Int)*((l-p:Nat):Int))=(((l-p)*q:Nat):Int):=by rw[show (q:Int)*((l-p:Nat):Int)=((q*(l-p):Nat):Int) by push_cast;rfl,Nat.mul_comm (l-p) q];exact AZ _ (by omega)
  have c2:=KJ n xs ((q:Int)*(l:Int))
  cases hs:Bl xs ((q:Int)*(l:Int)) with
  |false =>
   rw[hs] at c2
   simp only[Bool.false_eq_true,if_false]
   (try (simp -implicitDefEqProofs only[go_sem,w0,w1]));repeat' first|(with_reducible first|exact tI|refine aI ?_ ?_|intro _)|((first|with_reducible refine AJ ?_ ?_<;>intro _|(with_reducible refine isCall ?_);first|refine AE c1 ?_|refine AE c2 ?_)<;>try (simp -implicitDefEqProofs only[go_sem,w0,w1]))|simp (disch:=omega) only[Ad]|((with_reducible first|apply Ag|apply Ab);exact rfl)
   all_goals first|rfl|(simp;done)|skip
  |true =>
   rw[hs] at c2
   simp only[if_true]
   have cp:=MW n2 ms xs.length (by omega)
   cases hm:Cq ms xs.length with
   |false =>
    rw[hm] at cp
    simp only[Bool.false_eq_true,if_false]
    (try (simp -implicitDefEqProofs only[go_sem,w0,w1]));repeat' first|(with_reducible first|exact tI|refine aI ?_ ?_|intro _)|((first|with_reducible refine AJ ?_ ?_<;>intro _|(with_reducible refine isCall ?_);first|refine AE c1 ?_|refine AE c2 ?_|refine AE cp ?_)<;>try (simp -implicitDefEqProofs only[go_sem,w0,w1]))|simp (disch:=omega) only[Ad]|((with_reducible first|apply Ag|apply Ab);exact rfl)
    all_goals first|rfl|(simp;done)|skip
   |true =>
    rw[hm] at cp
    simp only[if_true]
    obtain⟨hl,hf⟩:=NC hs
    obtain⟨d,hd⟩:∃d,fs xs=d:=⟨_,rfl⟩
    rw[hd] at hf ⊢
    subst hf
    have hmk:=fT hm
    have hmf:=nN hm
    obtain⟨mk,hMK⟩:∃mk,nt ms=mk:=⟨_,rfl⟩
    rw[hMK] at hmk hmf ⊢
    subst hmf
    rw[Gx] at hl hmk hxl cp
    have hdl:=QO hl
    rw[hdl] at hmk
    have hmq:=TJ b2 b7
    have hml:=UL hmk
    simp only[Int.toNat_natCast]
    have c3:=fun k hk=>RF q l k n d (by omega) (by omega) b7 hk hdl
    have hpm:=fun k=>@QM l q k (by omega) mk hmk
    have c4:=fun k b=>Ob l p false b (Bw l q k d) (NS q k mk) b2 (by omega) b3 b4 (Bn ..) (hpm k)
    have hO:∀k,GK l p (Bw l q k d) (NS q k mk)=UV l p q d mk k:=fun k=>rfl
    simp only[hO] at c4
    obtain⟨m,hm2⟩:∃m,l-p=m:=⟨_,rfl⟩
    have hm1:1<=m:=by omega
    have hm15:m<=15:=by omega
    have hsome:=fun k r=>@Nb l p q d mk k r
    have hno:=fun k hk=>@gO l p q d mk k hk
    have hok:=@Ra l p q d mk
    rw[hm2] at w0 w2 hok
    simp only[hm2] at hsome
    have hlq:m*q<=120:=TJ hm15 b7
    have hlq1:0<m*q:=Nat.mul_pos (by omega) (by omega)
    obtain⟨N,hN⟩:∃N,m*q=N:=⟨_,rfl⟩
    rw[hN] at w2 hlq hlq1
    obtain⟨W,hW⟩:∃W,Zy l p q d mk=W:=⟨_,rfl⟩
    rw[hW] at hok hsome
    have hf0:=lW m q W
    rw[hN] at hf0
    (try (simp -implicitDefEqProofs only[go_sem,w0,w1,w2,UP]));repeat' first|(with_reducible first|exact tI|refine aI ?_ ?_|intro _)|((first|with_reducible refine AJ ?_ ?_<;>intro _|(with_reducible refine isCall ?_);first|refine AE c1 ?_|refine AE c2 ?_|refine AE cp ?_)<;>try (simp -implicitDefEqProofs only[go_sem,w0,w1,w2,UP]))|simp (disch:=omega) only[Ad]|((with_reducible first|apply Ag|apply Ab);exact rfl)
    all_goals first|omega|(simp<;>omega)|skip
    rw[←hf0]
    refine AU (α:=Nat) (l0:=?l1) (m0:=?m1) (fun x=>[(10,.d (.int .i64 (x:Int)))]) (fun x=>[(44,.row 3 1 false (Aa (iv (GW m q W x 0))))]) (fun x=>x<=q/\∀i,i<x->(UV l p q d mk i).isSome=true) (fun x=>q-x) 0 ?h01 ?he1 ?he21 ?hI1 ?step1
    case h01=>(simp -implicitDefEqProofs only[go_sem];rfl)
    case he1=>rfl
    case he21=>rfl
    case' step1=>(rintro k hI;try dsimp only at hI)
    case' hI1=>try dsimp only
    ·exact⟨Nat.zero_le _,fun i hi=>absurd hi (by omega)⟩
    ·obtain⟨k1,k3⟩:=hI
     by_cases hk:k<q
     ·have hk':(k:Int)<(q:Int):=by omega
      have hwk:IntKind.i64.wrap ((k:Int)+1)=((k+1:Nat):Int):=by rw[AZ _ (by omega)];omega
      have hq0:¬(q:Int)=0:=by omega
      (try (simp -implicitDefEqProofs only[go_sem,hk']));repeat' first|(with_reducible first|exact tI|refine aI ?_ ?_|intro _|refine AJ ?_ ?_<;>intro _<;>try simp -implicitDefEqProofs only[go_sem,hk'])|simp (disch:=omega) only[Ad]|((with_reducible refine Ca ?_);refine⟨(_,_,_),rfl,?_,?_⟩)|((with_reducible refine Ca ?_);refine⟨_,rfl,?_,?_⟩)
      all_goals first|omega|(simp<;>omega)|skip
      refine AU (α:=Nat×Bool×(List Nat)) (l0:=?l2) (m0:=?m2) (fun x=>[(12,.d (.int .i64 (x.1:Int)))]) (fun x=>[(75,.row 3 1 x.2.1 (Aa (ni x.2.2)))]) (fun x=>x.1<=mk.length/\x.2.1=x.2.2.isEmpty/\x.2.2=NS q k (mk.take x.1)) (fun x=>mk.length-x.1) (0,true,[]) ?h02 ?he2 ?he22 ?hI2 ?step2
      case h02=>(simp -implicitDefEqProofs only[go_sem];rfl)
      case he2=>rfl
      case he22=>rfl
      case' step2=>(rintro⟨i,e,mm⟩ hI2;try dsimp only at hI2)
      case' hI2=>try dsimp only
      ·exact⟨Nat.zero_le _,rfl,rfl⟩
      ·obtain⟨i1,i2,i3⟩:=hI2
       change e=mm.isEmpty at i2
       have hmml:mm.length<=1000:=by
        have h1:mm.length<=(mk.take i).length:=by
         rw[i3];unfold NS;rw[List.length_map];exact List.length_filter_le ..
        rw[List.length_take] at h1;omega
       by_cases hi:i<mk.length
       ·have hi':(i:Int)<(mk.length:Int):=by omega
        have hwi:IntKind.i64.wrap ((i:Int)+1)=((i+1:Nat):Int):=by rw[AZ _ (by omega)];omega
        have hx:=WD q k i mk hi
        have hxl2:=hmk.lt (mk[i]?.getD 0) (get_mem hi)
        obtain⟨x,hxx⟩:∃x,mk[i]?.getD 0=x:=⟨_,rfl⟩
        rw[hxx] at hx hxl2
        have t1:Int.tmod (x:Int) (q:Int)=((x%q:Nat):Int):=VQ x q
        have t2:Int.tdiv (x:Int) (q:Int)=((x/q:Nat):Int):=Qn x q
        have hdv:=Nat.div_le_self x q
        by_cases hxk:x%q=k
        ·have hxk':((x%q:Nat):Int)=(k:Int):=by omega
         rw[if_pos hxk,←i3] at hx
         have hse:=Vh mm (x/q)
         obtain⟨y,hy⟩:∃y,x/q=y:=⟨_,rfl⟩
         rw[hy] at t2 hx hdv hse
         have w2:IntKind.i64.wrap (y:Int)=(y:Int):=AZ _ (by omega)
         (try (simp -implicitDefEqProofs only[go_sem,hi',hi,hwi,hxx,t1,t2,w2,hxk',hq0]));repeat' first|(with_reducible first|exact tI|refine aI ?_ ?_|intro _|refine AJ ?_ ?_<;>intro _<;>try simp -implicitDefEqProofs only[go_sem,hi',hi,hwi,hxx,t1,t2,w2,hxk',hq0])|simp (disch:=omega) only[Ad]|((with_reducible first|apply Ag|apply Ab);exact rfl)
         all_goals first|omega|(simp<;>omega)|skip
         all_goals first|exact⟨hse,hx.symm⟩|exact hx.symm|exact hse|skip
        ·have hxk':¬((x%q:Nat):Int)=(k:Int):=by omega
         rw[if_neg hxk,←i3] at hx
         (try (simp -implicitDefEqProofs only[go_sem,hi',hi,hwi,hxx,t1,t2,hxk',hq0]));repeat' first|(with_reducible first|exact tI|refine aI ?_ ?_|intro _|refine AJ ?_ ?_<;>intro _<;>try simp -implicitDefEqProofs only[go_sem,hi',hi,hwi,hxx,t1,t2,hxk',hq0])|simp (disch:=omega) only[Ad]|((with_reducible first|apply Ag|apply Ab);exact rfl)
         all_goals first|omega|(simp<;>omega)|skip
         all_goals first|exact⟨i2,hx.symm⟩|exact hx.symm|exact i2|skip
       ·have hi':¬(i:Int)<(mk.length:Int):=by omega
        have htk:mk.take i=mk:=List.take_of_length_le (by omega)
        rw[htk] at i3
        subst i3
        have c5:=c3 k hk
        have c6:=c4 k e
        rw[A4] at c6
        have hsk:=hsome k
        have hnk:=hno k hk
        have hdec:=fun r h=>@Kn l p (Bw l q k d) r (NS q k mk) (Bn ..) (hpm k) h
        simp only[hO] at hdec
        obtain⟨O,hOO⟩:∃O,UV l p q d mk k=O:=⟨_,rfl⟩
        rw[hOO] at c6 hsk hnk hdec
        cases O with
        |none =>
         rw[R1] at c6
         rw[hnk rfl,Zl,Zj]
         (try (simp -implicitDefEqProofs only[go_sem,hi']));repeat' first|(with_reducible first|exact tI|refine aI ?_ ?_|intro _)|((first|with_reducible refine AJ ?_ ?_<;>intro _|(with_reducible refine isCall ?_);first|refine AE c5 ?_|refine AE c6 ?_)<;>try (simp -implicitDefEqProofs only[go_sem,hi']))|simp (disch:=omega) only[Ad]|((with_reducible first|apply Ag|apply Ab);exact rfl)
         all_goals first|rfl|omega|(simp;done)|skip
        |some r =>
         rw[Wx] at c6
         have hrl:=(hdec r rfl).2.1
         have hWr:=hsk r rfl
         have hk3:∀i,i<k+1->(UV l p q d mk i).isSome=true:=fun i hi=>by
          rcases Nat.lt_succ_iff_lt_or_eq.1 hi with hi|rfl
          ·exact k3 i hi
          ·rw[hOO];rfl
         have hnx:=Yg (m:=m) (k:=k) W (show 0<q by omega)
         (try (simp -implicitDefEqProofs only[go_sem,hi']));repeat' first|(with_reducible first|exact tI|refine aI ?_ ?_|intro _)|((first|with_reducible refine AJ ?_ ?_<;>intro _|(with_reducible refine isCall ?_);first|refine AE c5 ?_|refine AE c6 ?_)<;>try (simp -implicitDefEqProofs only[go_sem,hi']))|simp (disch:=omega) only[Ad]|((with_reducible first|apply Ag|apply Ab);exact rfl)
         all_goals first|omega|(simp<;>omega)|skip
         refine AU (α:=Nat) (l0:=?l3) (m0:=?m3) (fun x=>[(15,.d (.int .i64 (x:Int)))]) (fun x=>[(44,.row 3 1 false (Aa (iv (GW m q W k x))))]) (fun x=>x<=m) (fun x=>m-x) 0 ?h03 ?he3 ?he23 ?hI3 ?step3
         case h03=>(simp -implicitDefEqProofs only[go_sem];rfl)
         case he3=>rfl
         case he23=>rfl
         case' step3=>(rintro j hI3;try dsimp only at hI3)
         case' hI3=>try dsimp only
         ·exact Nat.zero_le _
         ·have hfl:=bt m q W k j
          rw[hN] at hfl
          by_cases hj:j<m
          ·have hj':(j:Int)<(m:Int):=by omega
           have hwj:IntKind.i64.wrap ((j:Int)+1)=((j+1:Nat):Int):=by rw[AZ _ (by omega)];omega
           have hlt:=Pg hk hj
           rw[hN] at hlt
           have hst:=br (W:=W) hk hj
           rw[hWr,aM r m j hj] at hst
           have hmj:IntKind.i64.wrap ((j:Int)*(q:Int))=((j*q:Nat):Int):=by rw[show (j:Int)*(q:Int)=((j*q:Nat):Int) by push_cast;rfl];exact AZ _ (by omega)
           obtain⟨s,hs⟩:∃s,j*q=s:=⟨_,rfl⟩
           rw[hs] at hmj hst hlt
           have hma:IntKind.i64.wrap ((s:Int)+(k:Int))=((s+k:Nat):Int):=by rw[AZ _ (by omega)];omega
           have hjl:j<r.length:=by omega
           (try (simp -implicitDefEqProofs only[go_sem,hj',hwj,hmj,hma,hlt,hfl,hst,hjl]));repeat' first|(with_reducible first|exact tI|refine aI ?_ ?_|intro _|refine AJ ?_ ?_<;>intro _<;>try simp -implicitDefEqProofs only[go_sem,hj',hwj,hmj,hma,hlt,hfl,hst,hjl])|simp (disch:=omega) only[Ad]|((with_reducible first|apply Ag|apply Ab);exact rfl)
           all_goals first|omega|(simp<;>omega)|skip
           all_goals first|rfl|skip
          ·have hj':¬(j:Int)<(m:Int):=by omega
           have hje:j=m:=by omega
           rw[hje,hnx]
           (try (simp -implicitDefEqProofs only[go_sem,Int.lt_irrefl,hwk]));repeat' first|(with_reducible first|exact tI|refine aI ?_ ?_|intro _|refine AJ ?_ ?_<;>intro _<;>try simp -implicitDefEqProofs only[go_sem,Int.lt_irrefl,hwk])|simp (disch:=omega) only[Ad]|((with_reducible first|apply Ag|apply Ab);exact rfl)
           all_goals first|omega|(simp<;>omega)|skip
           all_goals first|exact hk3|exact hk3 _ (by assumption)|skip
     ·have hk':¬(k:Int)<(q:Int):=by omega
      have hke:k=q:=by omega
      have hgs:=hok fun i hi=>k3 i (by omega)
      have hfe:=bu (m:=m) W (show 0<q by omega)
      have hB:0<(GL m q W).length:=by rw[F8,hN];exact hlq1
      rw[hgs,Zk,Zi,Mc hB]
      rw[hke,hfe]
      (try (simp -implicitDefEqProofs only[go_sem,Int.lt_irrefl]));repeat' first|(with_reducible first|exact tI|refine aI ?_ ?_|intro _|refine AJ ?_ ?_<;>intro _<;>try simp -implicitDefEqProofs only[go_sem,Int.lt_irrefl])|simp (disch:=omega) only[Ad]|((with_reducible first|apply Ag|apply Ab);exact rfl)
      all_goals first|rfl|omega|(simp;done)|skip
end
section
theorem qL {E:CB}{t:Nat}{V:AN}{K:AV->BQ->Prop}{f:FuncId}{xs:List AV}{ds:List D}{ety es:Nat}{nl:Bool}{l:List D}(h:nF E f ds ety es nl l) (ha:Ed xs=some ds) (ht:t<D7) (hk:K (.own t (V.cn t)) (.fresh t (.row ety es nl l))):DF E (some t) V f xs K :=
 .inr (.inr (.inl ⟨ds,t,ety,es,nl,l,rfl,ht,ha,h,hk⟩))
theorem Vx {E:CB} {rs ety es nl l s}:oz E rs ety es nl l .ret s=GE E s rs (a6 s.V ety es nl l):=rfl
theorem PR {E:CB} {rs ety es nl l s}:oz E rs ety es nl l .normal s=GE E s rs (a6 s.V ety es nl l):=rfl
theorem Vw {V:AN} {ety es nl l o g}:a6 V ety es nl l [.own o g]=(V.get o g=some (.row ety es nl l)):=rfl
theorem kg (xs:List Int) {i:Nat}(h:i<xs.length):(Dg xs).take (4*i)++H8 1 (xs[i]?.getD 0)=(Dg xs).take (4*(i+1)):=by
 have h1:=Rc (f:=H8 1) (m:=4) (fun x=>Ex 1 x) xs i
 have hl:=IZ xs
 rw[show 4*(i+1)=4*i+4 by omega,List.take_add]
 congr 1
 apply List.ext_getElem?
 intro k
 rw[List.getElem?_take]
 by_cases hk:k<4
 ·rw[if_pos hk,List.getElem?_drop]
  have:=h1 k h hk
  unfold Dg
  rw[this,List.getElem?_eq_getElem h];rfl
 ·rw[if_neg hk]
  exact List.getElem?_eq_none (by rw[Ex];omega)
theorem eP {s:Int}{B:List Int}{i:Nat}(h:i<B.length):∃x:Nat,x<16/\(Bd s B)[i]?.getD 0=(x:Int)/\((BK s (Dg B)).drop (4*i)).take 4=H8 1 (x:Int):=by
 have h1:=Vr s B h
 have hl:(BK s (Dg B)).length=4*B.length:=by rw[Db,IZ]
 obtain⟨p,hp⟩:∃p,((BK s (Dg B)).drop (i*4)).take 4=p:=⟨_,rfl⟩
 have hpl:p.length=4:=by rw[←hp,List.length_take,List.length_drop,hl];omega
 have hpb:Al p=true:=by rw[←hp];exact EB (DM (HT ..) _) _
 rw[hp,List.take_add_one,List.getElem?_eq_getElem (by rw[Bm];exact h)] at h1
 have h2:=List.append_cancel_left h1
 have h3:Ft 1 p=(Bd s B)[i]'(by rw[Bm];exact h):=by simpa using h2
 have h4:=Tt hpb (by omega)
 refine⟨(Ft 1 p).toNat,by omega,?_,?_⟩
 ·rw[List.getElem?_eq_getElem (by rw[Bm];exact h),Option.getD_some,←h3];omega
 ·rw[Int.toNat_of_nonneg h4.1,nh hpl hpb,Nat.mul_comm 4 i,hp]
theorem kC {R:List Int}{f:Nat}{a b c d:Int}(h:(R.drop f).take 4=[a,b,c,d]):R[f]?.getD 0=a/\R[f+1]?.getD 0=b/\R[f+2]?.getD 0=c/\R[f+3]?.getD 0=d:=by
 have key:∀k,k<4->R[f+k]?.getD 0=[a,b,c,d][k]?.getD 0:=fun k hk=>by
  rw[←h,List.getElem?_take,if_pos hk,List.getElem?_drop]
 exact⟨key 0 (by omega),key 1 (by omega),key 2 (by omega),key 3 (by omega)⟩
theorem eO {s:Int}{B:List Int}{i x:Nat}(h:i<B.length) (hx:(Bd s B)[i]?.getD 0=(x:Int)):(Bd s B).take i++[(x:Int)]=(Bd s B).take (i+1):=by
 have hl:i<(Bd s B).length:=by rw[Bm];exact h
 rw[List.take_add_one,List.getElem?_eq_getElem hl]
 rw[List.getElem?_eq_getElem hl,Option.getD_some] at hx
 rw[hx];rfl
def sc (c:AX) (X:List Int):Nat->List Int
 |0=>c.mark
 |k+1=>c.mark++c.flat (X.take (k+1))
attribute [local irreducible] IntKind.wrap Ai Option.getD and or
theorem Le (c:AX) (nb:Bool) (xs:List Int) (hs:B_ c.seed 1 127=true) (hl:xs.length<=32) (h0:0<xs.length) (hx:∀x,x∈xs->0<=x/\x<=15) :
  nF E0 Hi [DJ c,.list nb (Aa xs)] 3 1 false (Aa (Bd c.seed xs)):=by
 have hnl:=IZ xs
 refine X1 Li Af (by simp) fun hwf=>?_
 rw[AQ];unfold Gq
 (try (simp -implicitDefEqProofs only[go_sem,AP,AO]));repeat' first|(with_reducible first|exact tI|refine aI ?_ ?_|intro _|refine AJ ?_ ?_<;>intro _<;>try simp -implicitDefEqProofs only[go_sem,AP,AO])|simp (disch:=omega) only[Ad]|((with_reducible first|apply Ag|apply Ae);exact rfl)
 all_goals first|omega|(simp<;>omega)|skip
 refine AU (α:=Nat×Bool) (l0:=?l1) (m0:=?m1) (fun x=>[(6,.d (.int .i64 (x.1:Int)))]) (fun x=>[(23,.row 3 1 x.2 (Aa ((Dg xs).take (4*x.1))))]) (fun x=>x.1<=xs.length/\x.2=decide (x.1=0)) (fun x=>xs.length-x.1) (0,true) ?h01 ?he1 ?he21 ?hI1 ?step1
 case h01=>(simp -implicitDefEqProofs only[go_sem];rfl)
 case he1=>rfl
 case he21=>rfl
 case' step1=>(rintro⟨i,nl⟩ hI;try dsimp only at hI)
 case' hI1=>try dsimp only
 ·exact⟨Nat.zero_le _,rfl⟩
 ·obtain⟨i1,i2⟩:=hI
  change nl=decide (i=0) at i2
  subst i2
  by_cases hi:i<xs.length
  ·have hi':(i:Int)<(xs.length:Int):=by omega
   have hwi:IntKind.i64.wrap ((i:Int)+1)=((i+1:Nat):Int):=by rw[AZ _ (by omega)];omega
   have hxm:=hx _ (Cs hi)
   have hst:=kg xs hi
   obtain⟨x,hx⟩:∃x,xs[i]?.getD 0=x:=⟨_,rfl⟩
   rw[hx] at hxm hst
   obtain⟨y,rfl⟩:∃y:Nat,x=(y:Int):=⟨x.toNat,by omega⟩
   have c1:=IE y (by omega)
   have hwl:=Ex 1 (y:Int)
   have hl4:((Dg xs).take (4*i)).length<=128:=by rw[List.length_take];omega
   have hwe:H8 1 (y:Int)≠[]:=fun e=>by rw[e] at hwl;simp at hwl
   have hfe:false=decide (i+1=0):=by simp
   have hwf2:(H8 1 (y:Int)).isEmpty=false:=Fj hwe
   (try (simp -implicitDefEqProofs only[go_sem,AP,AO,hi',hi,hx,hwi,hwf2]));repeat' first|(with_reducible first|exact tI|refine aI ?_ ?_|intro _)|((first|with_reducible refine AJ ?_ ?_<;>intro _|(with_reducible refine isCall ?_);first|refine AE c1 ?_)<;>try (simp -implicitDefEqProofs only[go_sem,AP,AO,hi',hi,hx,hwi,hwf2]))|simp (disch:=omega) only[Ad]|((with_reducible refine Ca ?_);refine⟨(_,_,_),rfl,?_,?_⟩)|((with_reducible refine Ca ?_);refine⟨(_,_),rfl,?_,?_⟩)
   all_goals first|omega|(simp<;>omega)|skip
   rw[hst]
   exact⟨(i+1,false),rfl,⟨by show i+1<=xs.length;omega,hfe⟩,by show xs.length-(i+1)<xs.length-i;omega⟩
  ·have hi':¬(i:Int)<(xs.length:Int):=by omega
   have htk:(Dg xs).take (4*i)=Dg xs:=List.take_of_length_le (by omega)
   have hi0:decide (i=0)=false:=decide_eq_false (by omega)
   rw[htk,hi0]
   have hso:Gn c.seed (Dg xs)=(BK c.seed (Dg xs),0):=NF (by unfold Cj;rw[hs,TH,decide_eq_true (by omega)];simp only[Bool.and_self])
   have c2:=MX c.seed false (Dg xs)
   rw[hso] at c2
   have hr1:=Db c.seed (Dg xs)
   have hpart:=fun i hi=>@eP c.seed xs i hi
   obtain⟨R,hR⟩:∃R,BK c.seed (Dg xs)=R:=⟨_,rfl⟩
   rw[hR] at c2 hr1
   simp only[hR] at hpart
   have hRe:R.isEmpty=false:=Fj (fun e=>by rw[e] at hr1;simp at hr1;omega)
   rw[hRe] at c2
   (try (simp -implicitDefEqProofs only[go_sem,AP,AO,hi']));repeat' first|(with_reducible first|exact tI|refine aI ?_ ?_|intro _)|((first|with_reducible refine AJ ?_ ?_<;>intro _|(with_reducible refine isCall ?_);first|refine AE c2 ?_)<;>try (simp -implicitDefEqProofs only[go_sem,AP,AO,hi']))|simp (disch:=omega) only[Ad]|((with_reducible refine Ca ?_);refine⟨(_,_,_),rfl,?_,?_⟩)|((with_reducible refine Ca ?_);refine⟨(_,_),rfl,?_,?_⟩)
   all_goals first|omega|(simp<;>omega)|skip
   refine AU (α:=Nat×Bool×Int) (l0:=?l2) (m0:=?m2) (fun x=>[(10,.d (.int .i64 x.2.2))]) (fun x=>[(64,.row 3 1 x.2.1 (Aa ((Bd c.seed xs).take x.1)))]) (fun x=>x.1<=xs.length/\x.2.1=decide (x.1=0)/\x.2.2=((4*x.1:Nat):Int)) (fun x=>xs.length-x.1) (0,true,0) ?h02 ?he2 ?he22 ?hI2 ?step2
   case h02=>(simp -implicitDefEqProofs only[go_sem];rfl)
   case he2=>rfl
   case he22=>rfl
   case' step2=>(rintro⟨j,nl,a⟩ hI2;try dsimp only at hI2)
   case' hI2=>try dsimp only
   ·exact⟨Nat.zero_le _,rfl,rfl⟩
   ·obtain⟨j1,j2,j3⟩:=hI2
    change nl=decide (j=0) at j2
    change a=((4*j:Nat):Int) at j3
    subst j2
    subst j3
    by_cases hj:j<xs.length
    ·obtain⟨x,hx1,hx2,hx3⟩:=hpart j hj
     have hst:=eO hj hx2
     obtain⟨y0,hy0⟩:∃y,(x:Int)/8%2=y:=⟨_,rfl⟩
     obtain⟨y1,hy1⟩:∃y,(x:Int)/4%2=y:=⟨_,rfl⟩
     obtain⟨y2,hy2⟩:∃y,(x:Int)/2%2=y:=⟨_,rfl⟩
     obtain⟨y3,hy3⟩:∃y,(x:Int)/1%2=y:=⟨_,rfl⟩
     have hw1:H8 1 (x:Int)=[y0,y1,y2,y3]:=by rw[←hy0,←hy1,←hy2,←hy3];rfl
     rw[hw1] at hx3
     obtain⟨F,hF⟩:∃F,4*j=F:=⟨_,rfl⟩
     rw[hF] at hx3
     rw[hF]
     obtain⟨b0,b1,b2,b3⟩:=kC hx3
     have g0:(F:Int)<(R.length:Int):=by omega
     have g0n:F<R.length:=by omega
     have g1:F+1<R.length:=by omega
     have g2:F+2<R.length:=by omega
     have g3:F+3<R.length:=by omega
     have q1:IntKind.i64.wrap ((F:Int)+1)=((F+1:Nat):Int):=by rw[AZ _ (by omega)];omega
     have q2:IntKind.i64.wrap ((F:Int)+2)=((F+2:Nat):Int):=by rw[AZ _ (by omega)];omega
     have q3:IntKind.i64.wrap ((F:Int)+3)=((F+3:Nat):Int):=by rw[AZ _ (by omega)];omega
     have q4:IntKind.i64.wrap ((F:Int)+4)=((4*(j+1):Nat):Int):=by rw[AZ _ (by omega)];omega
     have v1:IntKind.i64.wrap (8*y0)=8*y0:=AZ _ (by omega)
     have v2:IntKind.i64.wrap (4*y1)=4*y1:=AZ _ (by omega)
     have v3:IntKind.i64.wrap (8*y0+4*y1)=8*y0+4*y1:=AZ _ (by omega)
     have v4:IntKind.i64.wrap (2*y2)=2*y2:=AZ _ (by omega)
     have v5:IntKind.i64.wrap (8*y0+4*y1+2*y2)=8*y0+4*y1+2*y2:=AZ _ (by omega)
     have v6:IntKind.i64.wrap (8*y0+4*y1+2*y2+y3)=(x:Int):=by rw[AZ _ (by omega)];omega
     have hl32:((Bd c.seed xs).take j).length<=32:=by rw[List.length_take];omega
     have hfe:false=decide (j+1=0):=by simp
     (try (simp -implicitDefEqProofs only[go_sem,g0,g0n,g1,g2,g3,q1,q2,q3,q4,b0,b1,b2,b3,v1,v2,v3,v4,v5,v6,hst]));repeat' first|(with_reducible first|exact tI|refine aI ?_ ?_|intro _|refine AJ ?_ ?_<;>intro _<;>try simp -implicitDefEqProofs only[go_sem,g0,g0n,g1,g2,g3,q1,q2,q3,q4,b0,b1,b2,b3,v1,v2,v3,v4,v5,v6,hst])|simp (disch:=omega) only[Ad]|((with_reducible refine Ca ?_);refine⟨(_,_,_),rfl,?_,?_⟩)|((with_reducible refine Ca ?_);refine⟨(_,_),rfl,?_,?_⟩)
     all_goals first|omega|(simp<;>omega)|skip
     all_goals exact⟨(j+1,false,_),rfl,⟨by show j+1<=xs.length;omega,hfe,rfl⟩,by show xs.length-(j+1)<xs.length-j;omega⟩
    ·have hj':¬((4*j:Nat):Int)<(R.length:Int):=by omega
     have hje:j=xs.length:=by omega
     have htk:(Bd c.seed xs).take j=Bd c.seed xs:=List.take_of_length_le (by rw[Bm];omega)
     have hj0:decide (j=0)=false:=decide_eq_false (by omega)
     rw[htk,hj0]
     (try (simp -implicitDefEqProofs only[go_sem,hj',Vx,PR,Vw]));repeat' first|(with_reducible first|exact tI|refine aI ?_ ?_|intro _|refine AJ ?_ ?_<;>intro _<;>try simp -implicitDefEqProofs only[go_sem,hj',Vx,PR,Vw])|simp (disch:=omega) only[Ad]|((with_reducible first|apply Ag|apply Ae);exact rfl)
     all_goals first|omega|(simp<;>omega)|skip
     all_goals first|rfl|skip
end
section
def oe (o:Option Nat):D:=.tup [.int .i64 ((o.getD 0:Nat):Int),.bool o.isSome]
theorem d8 (s:Nat):oe (some s)=.tup [.int .i64 (s:Int),.bool true]:=rfl
theorem d9:oe none=.tup [.int .i64 0,.bool false]:=rfl
theorem bj {l:List Nat}{k:Nat}(h:k<l.length):l[k]?.getD 0∈l:=by rw[List.getElem?_eq_getElem h];exact List.getElem_mem h
theorem ji {c:AW}{p:List Int}(h:∀s,s<16->c.stm s≠p):J2 c p=none:=by
 cases he:J2 c p with
 |none=>rfl
 |some s=>obtain⟨h1,h2⟩:=H' he;exact absurd h2 (h s h1)
def SY (X:List Int) (ms:List Nat):List Int:=ms.foldl (fun a i=>a.set i 0) X
theorem Uj (ms:List Nat):∀X:List Int,(SY X ms).length=X.length:=by
 induction ms with
 |nil=>intro X;rfl
 |cons m ms ih=>intro X;show (SY (X.set m 0) ms).length=_;rw[ih,List.length_set]
theorem iB (X:List Int) (ms:List Nat) (m:Nat):SY X (ms++[m])=(SY X ms).set m 0:=by simp[SY]
theorem Ui (ms:List Nat) {i:Nat}(h:i∉ms):∀X:List Int,(SY X ms)[i]?=X[i]?:=by
 induction ms with
 |nil=>intro X;rfl
 |cons m ms ih =>
  intro X
  show (SY (X.set m 0) ms)[i]?=_
  rw[ih fun hh=>h (List.mem_cons_of_mem _ hh),List.getElem?_set_ne fun e=>h (by rw[e];exact List.mem_cons_self)]
theorem ln (ms:List Nat):∀X:List Int,(∀x,x∈X->0<=x/\x<=15)->∀x,x∈SY X ms->0<=x/\x<=15:=by
 induction ms with
 |nil=>intro X h;exact h
 |cons m ms ih =>
  intro X h
  refine ih (X.set m 0) fun x hx=>?_
  rcases List.mem_or_eq_of_mem_set hx with hx|rfl
  ·exact h x hx
  ·omega
theorem k9 {sy:List (Option Nat)}(h:∀i,i<sy.length->∀s,sy[i]?.getD none=some s->s<16):∀x,x∈GV sy->0<=x/\x<=15:=fun x hx=>by
 simp only[GV,List.mem_map] at hx
 obtain⟨o,ho,rfl⟩:=hx
 cases o with
 |none=>exact⟨by simp,by simp⟩
 |some s =>
  obtain⟨i,hi⟩:=List.getElem?_of_mem ho
  have hl:=(List.getElem?_eq_some_iff.1 hi).1
  have:=h i hl s (by rw[hi];rfl)
  simp only[Option.getD_some];omega
theorem jj {c:AX}{bits:List Int}{a:Nat}:∀i,i<(c.syL bits a).length->∀s,(c.syL bits a)[i]?.getD none=some s->s<16:=fun i hi s hs=>by
 rw[HS] at hi
 simp[AX.syL,hi] at hs
 exact(H' hs).1
theorem aN {xs:List Int}{n:Int}(hl:(xs.length:Int)=n) (h:∀x,x∈xs->0<=x/\x<=15):Bl xs n=true:=by
 have:iv (fs xs)=xs:=WO (by
  rw[List.all_eq_true]
  intro x hx
  have:=h x hx
  unfold J3;rw[decide_eq_true_eq];omega)
 rw[←this,VR,decide_eq_true_eq,UW];exact hl
theorem gB {c:AX}(hk:HJ c) {sy:List (Option Nat)}(hl:sy.length=c.syms) :
  jP c.L c.P c.Q (SY (Bd c.seed (GV sy)) (J_ sy)) (ni (J_ sy))=XU c sy/\dU c.L c.P c.Q (SY (Bd c.seed (GV sy)) (J_ sy)) (ni (J_ sy))=YW c sy:=by
 obtain⟨l,p,q,h1,h2,h3,b1,b2,b3,b4,b5,b6,b7,hc⟩:=I7 hk.wev
 have hs:c.syms=l*q:=by
  have:=hk.syms.2.2
  rw[h1,h3] at this
  have e:(q:Int)*(l:Int)=((l*q:Nat):Int):=by push_cast;exact Int.mul_comm ..
  rw[e] at this;omega
 obtain⟨g1,g2⟩:=nS hk h1 h2 h3 hs hl
 have hxl:(Bd c.seed (GV sy)).length=c.syms:=by rw[Bm,Cw,hl]
 have hel:(SY (Bd c.seed (GV sy)) (J_ sy)).length=c.syms:=by rw[Uj,hxl]
 have hsy:Bl (SY (Bd c.seed (GV sy)) (J_ sy)) (c.Q*c.L)=true:=aN (by rw[hel];exact hk.syms.2.2.symm) (ln _ _ (IB _ _))
 have hmks:XV (l*q) (J_ sy):=⟨List.Pairwise.filter _ List.pairwise_lt_range,fun j hj=>by
  have:=(List.mem_filter.1 hj).1
  rw[List.mem_range] at this
  omega⟩
 have hm:Cq (ni (J_ sy)) ((SY (Bd c.seed (GV sy)) (J_ sy)).length:Int)=true:=by
  rw[hel,hs];exact PZ hmks
 have key:=gN (L:=l) (P:=p) (q:=q) (B:=fs (SY (Bd c.seed (GV sy)) (J_ sy))) (C:=fs (Bd c.seed (GV sy))) b2 (by omega) hmks fun i hi hn=>by
  simp only[fs,List.getElem?_map]
  rw[Ui _ hn]
 rw[g1,g2]
 unfold jP dU
 rw[if_pos hk.wev,if_pos hsy,if_pos hm,if_pos hk.wev,if_pos hsy,if_pos hm,fF,h1,h2,h3,Int.toNat_natCast,Int.toNat_natCast,Int.toNat_natCast,key]
 exact⟨rfl,rfl⟩
theorem fg {sy:List (Option Nat)}{k:Nat}(h:k<sy.length):(GV sy).take k++[((sy[k].getD 0:Nat):Int)]=(GV sy).take (k+1):=by
 rw[List.take_add_one,List.getElem?_eq_getElem (by rw[Cw];exact h)]
 simp[GV]
theorem iA (X:List Int) (ms:List Nat) {k:Nat}(h:k<ms.length):(SY X (ms.take k)).set (ms[k]?.getD 0) 0=SY X (ms.take (k+1)):=by
 rw[←iB,List.take_add_one,List.getElem?_eq_getElem h];rfl
attribute [local irreducible] IntKind.wrap Ai Option.getD and or
theorem Oa (c:AX) (hk:HJ c) (nb:Bool) (p:List Int):BR E0 K4 [DJ c,.list nb (Aa p)] (oe (J2 c.code p)):=by
 refine AM Ou Af (by simp) fun hwf=>?_
 rw[AQ];unfold JY
 (try (simp -implicitDefEqProofs only[go_sem,AP,AO]));repeat' first|(with_reducible first|exact tI|refine aI ?_ ?_|intro _|refine AJ ?_ ?_<;>intro _<;>try simp -implicitDefEqProofs only[go_sem,AP,AO])|simp (disch:=omega) only[Ad]|((with_reducible apply Ab);exact rfl)
 all_goals first|omega|(simp<;>omega)|skip
 refine AU (α:=Nat) (l0:=?l1) (m0:=?m1) (fun x=>[(6,.d (.int .i64 (x:Int)))]) (fun x=>[]) (fun x=>x<=16/\∀j,j<x->c.code.stm j≠p) (fun x=>16-x) 0 ?h01 ?he1 ?he21 ?hI1 ?step1
 case h01=>(simp -implicitDefEqProofs only[go_sem];rfl)
 case he1=>rfl
 case he21=>rfl
 case' step1=>(rintro s hI;try dsimp only at hI)
 case' hI1=>try dsimp only
 ·exact⟨Nat.zero_le _,fun j hj=>by omega⟩
 ·obtain⟨s1,s2⟩:=hI
  by_cases hs:s<16
  ·have hs':(s:Int)<16:=by omega
   have hws:IntKind.i64.wrap ((s:Int)+1)=((s+1:Nat):Int):=by rw[AZ _ (by omega)];omega
   have c1:=Fi c hk.code s hs
   have c2:=E3 false nb (c.code.stm s) p
   by_cases he:c.code.stm s=p
   ·have hr:oe (J2 c.code p)=.tup [.int .i64 (s:Int),.bool true]:=by rw[←he,Qp hk.dst hs,d8]
    rw[decide_eq_true he] at c2
    rw[hr]
    (try (simp -implicitDefEqProofs only[go_sem,AP,AO,hs']));repeat' first|(with_reducible first|exact tI|refine aI ?_ ?_|intro _)|((first|with_reducible refine AJ ?_ ?_<;>intro _|(with_reducible refine isCall ?_);first|refine AE c1 ?_|refine AE c2 ?_)<;>try (simp -implicitDefEqProofs only[go_sem,AP,AO,hs']))|simp (disch:=omega) only[Ad]|((with_reducible apply Ab);exact rfl)
    all_goals first|omega|(simp<;>omega)|skip
    all_goals first|rfl|skip
   ·rw[decide_eq_false he] at c2
    (try (simp -implicitDefEqProofs only[go_sem,AP,AO,hs',hws]));repeat' first|(with_reducible first|exact tI|refine aI ?_ ?_|intro _)|((first|with_reducible refine AJ ?_ ?_<;>intro _|(with_reducible refine isCall ?_);first|refine AE c1 ?_|refine AE c2 ?_)<;>try (simp -implicitDefEqProofs only[go_sem,AP,AO,hs',hws]))|simp (disch:=omega) only[Ad]|((with_reducible apply Ab);exact rfl)
    all_goals first|omega|(simp<;>omega)|skip
    rename_i j hj
    have hj2:j<s+1:=hj
    rcases Nat.lt_or_ge j s with h|h
    ·exact s2 j h
    ·have:j=s:=by omega
     subst this;exact he
  ·have hs':¬(s:Int)<16:=by omega
   have hr:oe (J2 c.code p)=.tup [.int .i64 0,.bool false]:=by rw[ji fun j hj=>s2 j (by omega),d9]
   rw[hr]
   (try (simp -implicitDefEqProofs only[go_sem,hs']));repeat' first|(with_reducible first|exact tI|refine aI ?_ ?_|intro _|refine AJ ?_ ?_<;>intro _<;>try simp -implicitDefEqProofs only[go_sem,hs'])|simp (disch:=omega) only[Ad]|((with_reducible apply Ab);exact rfl)
   all_goals first|omega|(simp<;>omega)|skip
   all_goals first|rfl|skip
theorem RB (c:AX) (hk:HJ c) (nb:Bool) (bits:List Int) (a:Nat) (ha:a+c.tot<=bits.length) (hb:bits.length<=1000) :
  BR E0 JS [DJ c,.list nb (Aa bits),.int .i64 (a:Int)] (.tup [.list false (Aa (SY (Bd c.seed (GV (c.syL bits a))) (J_ (c.syL bits a)))),.list (J_ (c.syL bits a)).isEmpty (Aa (ni (J_ (c.syL bits a))))]):=by
 have hm:=hk.markl
 have ht:=hk.tot
 have hs:=hk.syms
 have hz:=Hl hk.code
 have htt:c.tot=c.mark.length+c.syms*c.code.sz:=rfl
 have cS:=Cu c hk.wev
 have cZ:=KG c hk.code
 rw[hs.2.2] at cS
 have hsl:=HS c bits a
 have hsr:=k9 (@jj c bits a)
 have hget:∀i,i<c.syms->∀h:i<(c.syL bits a).length,(c.syL bits a)[i]=J2 c.code (c.part bits a i):=fun i hi h=>by simp[AX.syL]
 obtain⟨sy,hsy⟩:∃sy,c.syL bits a=sy:=⟨_,rfl⟩
 simp only[hsy] at hsl hsr hget ⊢
 have hkl:=Cw sy
 refine AM Rn Af (by simp) fun hwf=>?_
 rw[AQ];unfold Lv
 (try (simp -implicitDefEqProofs only[go_sem,AP,AO]));repeat' first|(with_reducible first|exact tI|refine aI ?_ ?_|intro _|refine AJ ?_ ?_<;>intro _<;>try simp -implicitDefEqProofs only[go_sem,AP,AO])|simp (disch:=omega) only[Ad]|((with_reducible refine Ca ?_);refine⟨(_,_,_),rfl,?_,?_⟩)|((with_reducible refine Ca ?_);refine⟨_,rfl,?_,?_⟩)
 all_goals first|omega|(simp<;>omega)|skip
 refine AU (α:=Nat×Bool×Bool) (l0:=?l2) (m0:=?m2) (fun x=>[(8,.d (.int .i64 (x.1:Int)))]) (fun x=>[(51,.row 3 1 x.2.2 (Aa ((GV sy).take x.1))),(47,.row 3 1 x.2.1 (Aa (ni (NT sy x.1))))]) (fun x=>x.1<=sy.length/\x.2.1=(NT sy x.1).isEmpty/\x.2.2=decide (x.1=0)) (fun x=>sy.length-x.1) (0,true,true) ?h02 ?he2 ?he22 ?hI2 ?step2
 case h02=>(simp -implicitDefEqProofs only[go_sem];rfl)
 case he2=>rfl
 case he22=>rfl
 case' step2=>(rintro⟨i,e,f⟩ hI;try dsimp only at hI)
 case' hI2=>try dsimp only
 ·exact⟨Nat.zero_le _,rfl,rfl⟩
 ·obtain⟨i1,i2,i3⟩:=hI
  change e=(NT sy i).isEmpty at i2
  change f=decide (i=0) at i3
  by_cases hi:i<sy.length
  ·have hi':(i:Int)<((c.syms:Nat):Int):=by omega
   have hwi:IntKind.i64.wrap ((i:Int)+1)=((i+1:Nat):Int):=by rw[AZ _ (by omega)];omega
   have h1:i*c.code.sz+c.code.sz<=c.syms*c.code.sz:=by have:=Nat.mul_le_mul_right c.code.sz (show i+1<=c.syms by omega);rw[Nat.add_mul,Nat.one_mul] at this;exact this
   have v0:IntKind.i64.wrap ((a:Int)+(c.mark.length:Int))=((a+c.mark.length:Nat):Int):=by rw[AZ _ (by omega)];omega
   have v1:IntKind.i64.wrap ((i:Int)*(c.code.sz:Int))=((i*c.code.sz:Nat):Int):=by rw[←Int.natCast_mul];exact AZ _ (by omega)
   have v2:IntKind.i64.wrap (((a+c.mark.length:Nat):Int)+((i*c.code.sz:Nat):Int))=((a+c.mark.length+i*c.code.sz:Nat):Int):=by rw[AZ _ (by omega)];omega
   have v3:IntKind.i64.wrap (((a+c.mark.length+i*c.code.sz:Nat):Int)+(c.code.sz:Int))=((a+c.mark.length+i*c.code.sz+c.code.sz:Nat):Int):=by rw[AZ _ (by omega)];omega
   obtain⟨g,hg⟩:∃g,a+c.mark.length+i*c.code.sz=g:=⟨_,rfl⟩
   have hpa:(bits.drop g).take c.code.sz=c.part bits a i:=by unfold AX.part;rw[←hg]
   rw[hg] at v2 v3
   have hsub:g+c.code.sz-g=c.code.sz:=by omega
   have g1:((g+c.code.sz:Nat):Int)<=(bits.length:Int):=by omega
   have g3:(g:Int)<=((g+c.code.sz:Nat):Int):=by omega
   have c1:=Oa c hk nb (c.part bits a i)
   have hsi:=hget i (by omega) hi
   have hkn:=fg hi
   have hl32:((GV sy).take i).length<=32:=by rw[List.length_take];omega
   have hmk:=UM sy i
   have hml:=QK (NT sy i)
   have hfe:false=decide (i+1=0):=by simp
   rw[←hsi] at c1
   cases hsv:sy[i] with
   |none =>
    rw[hsv] at c1 hkn
    simp only[oe,Option.isSome_none,Option.getD_none] at c1 hkn
    have h2:=RY sy hi hsv
    have h3:=RU (NT sy i) i
    have h4:false=(NT sy i++[i]).isEmpty:=by cases NT sy i<;>rfl
    rw[←h2] at h4 h3
    (try (simp -implicitDefEqProofs only[go_sem,AP,AO,hi',hwi,v0,v1,v2,v3,hpa,hsub,g1,g3,hkn,h3]));repeat' first|(with_reducible first|exact tI|refine aI ?_ ?_|intro _)|((first|with_reducible refine AJ ?_ ?_<;>intro _|(with_reducible refine isCall ?_);first|refine AE cS ?_|refine AE cZ ?_|refine AE c1 ?_)<;>try (simp -implicitDefEqProofs only[go_sem,AP,AO,hi',hwi,v0,v1,v2,v3,hpa,hsub,g1,g3,hkn,h3]))|simp (disch:=omega) only[Ad]|((with_reducible refine Ca ?_);refine⟨(_,_,_),rfl,?_,?_⟩)|((with_reducible refine Ca ?_);refine⟨_,rfl,?_,?_⟩)
    all_goals first|omega|(simp<;>omega)|skip
    all_goals exact⟨(i+1,false,false),rfl,⟨by show i+1<=sy.length;omega,h4,hfe⟩,by show sy.length-(i+1)<sy.length-i;omega⟩
   |some x =>
    rw[hsv] at c1 hkn
    simp only[oe,Option.isSome_some,Option.getD_some] at c1 hkn
    have h2:=RX sy hi hsv
    (try (simp -implicitDefEqProofs only[go_sem,AP,AO,hi',hwi,v0,v1,v2,v3,hpa,hsub,g1,g3,hkn]));repeat' first|(with_reducible first|exact tI|refine aI ?_ ?_|intro _)|((first|with_reducible refine AJ ?_ ?_<;>intro _|(with_reducible refine isCall ?_);first|refine AE cS ?_|refine AE cZ ?_|refine AE c1 ?_)<;>try (simp -implicitDefEqProofs only[go_sem,AP,AO,hi',hwi,v0,v1,v2,v3,hpa,hsub,g1,g3,hkn]))|simp (disch:=omega) only[Ad]|((with_reducible refine Ca ?_);refine⟨(_,_,_),rfl,?_,?_⟩)|((with_reducible refine Ca ?_);refine⟨_,rfl,?_,?_⟩)
    all_goals first|omega|(simp<;>omega)|skip
    rw[←h2] at i2
    all_goals (rw[←h2];exact⟨(i+1,e,false),rfl,⟨by show i+1<=sy.length;omega,i2,hfe⟩,by show sy.length-(i+1)<sy.length-i;omega⟩)
  ·have hie:i=sy.length:=by omega
   subst hie
   have hi':¬((sy.length:Nat):Int)<((c.syms:Nat):Int):=by omega
   have htk:(GV sy).take sy.length=GV sy:=List.take_of_length_le (by omega)
   have hf0:f=false:=by rw[i3];exact decide_eq_false (by omega)
   rw[htk,hf0,UN] at *
   have cR:=Le c false (GV sy) hk.seed (by omega) (by omega) hsr
   have hXl:=Bm (GV sy) c.seed
   obtain⟨X,hX⟩:∃X,Bd c.seed (GV sy)=X:=⟨_,rfl⟩
   rw[hX] at cR hXl ⊢
   have hmn:∀m,m∈J_ sy->m<sy.length:=fun m hm=>by
    have:=(List.mem_filter.1 hm).1
    rwa [List.mem_range] at this
   have hmsl:(J_ sy).length<=sy.length:=UM sy sy.length
   obtain⟨ms,hms⟩:∃ms,J_ sy=ms:=⟨_,rfl⟩
   rw[hms] at hmn hmsl i2 ⊢
   have hnl:=QK ms
   subst i2
   (try (simp -implicitDefEqProofs only[go_sem,AP,AO,hi']));repeat' first|(with_reducible first|exact tI|refine aI ?_ ?_|intro _)|((first|with_reducible refine AJ ?_ ?_<;>intro _|(with_reducible refine isCall ?_);first|refine AE cS ?_|refine qL (cR) rfl (by simp[D7]) ?_)<;>try (simp -implicitDefEqProofs only[go_sem,AP,AO,hi']))|simp (disch:=omega) only[Ad]|((with_reducible first|apply Ag|apply Ab);exact rfl)
   all_goals first|omega|(simp<;>omega)|skip
   refine AU (α:=Nat) (l0:=?l3) (m0:=?m3) (fun x=>[(13,.d (.int .i64 (x:Int)))]) (fun x=>[(54,.row 3 1 false (Aa (SY X (ms.take x))))]) (fun x=>x<=ms.length) (fun x=>ms.length-x) 0 ?h03 ?he3 ?he23 ?hI3 ?step3
   case h03=>(simp -implicitDefEqProofs only[go_sem];rfl)
   case he3=>rfl
   case he23=>rfl
   case' step3=>(rintro k hI2;try dsimp only at hI2)
   case' hI3=>try dsimp only
   ·exact Nat.zero_le _
   ·have hel:=Uj (ms.take k) X
    by_cases hkm:k<ms.length
    ·have hk':(k:Int)<((ni ms).length:Int):=by omega
     have hkn:k<(ni ms).length:=by omega
     have hwk:IntKind.i64.wrap ((k:Int)+1)=((k+1:Nat):Int):=by rw[AZ _ (by omega)];omega
     have hgk:=UK ms k hkm
     have hmk:ms[k]?.getD 0<sy.length:=hmn _ (bj hkm)
     have hst:=iA X ms hkm
     have hbd:ms[k]?.getD 0<(SY X (ms.take k)).length:=by omega
     (try (simp -implicitDefEqProofs only[go_sem,hk',hkn,hwk,hgk,hbd,hst]));repeat' first|(with_reducible first|exact tI|refine aI ?_ ?_|intro _|refine AJ ?_ ?_<;>intro _<;>try simp -implicitDefEqProofs only[go_sem,hk',hkn,hwk,hgk,hbd,hst])|simp (disch:=omega) only[Ad]|((with_reducible refine Ca ?_);refine⟨(_,_,_),rfl,?_,?_⟩)|((with_reducible refine Ca ?_);refine⟨_,rfl,?_,?_⟩)
     all_goals first|omega|(simp<;>omega)|skip
     all_goals exact⟨k+1,rfl,hkm,by omega⟩
    ·have hk':¬(k:Int)<((ni ms).length:Int):=by omega
     have htk2:ms.take k=ms:=List.take_of_length_le (by omega)
     rw[htk2]
     (try (simp -implicitDefEqProofs only[go_sem,hk']));repeat' first|(with_reducible first|exact tI|refine aI ?_ ?_|intro _|refine AJ ?_ ?_<;>intro _<;>try simp -implicitDefEqProofs only[go_sem,hk'])|simp (disch:=omega) only[Ad]|((with_reducible first|apply Ag|apply Ab);exact rfl)
     all_goals first|omega|(simp<;>omega)|skip
     all_goals first|rfl|skip
end
end Go.Pw

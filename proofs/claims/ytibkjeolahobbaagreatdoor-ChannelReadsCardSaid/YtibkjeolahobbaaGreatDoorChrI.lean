/- A part of the proof. -/
import Derived.Test.YtibkjeolahobbaaGreatDoorChrH
set_option linter.all false
open Go Go.Pw Go.Proofs
namespace Go.Pw
set_option maxRecDepth 100000
set_option maxHeartbeats 6400000
def oH (o:Option (List F)):D:=match o with
 |some v=>.tup [.list v.isEmpty (Ab (iv v)),.bool true]
 |none=>.tup [.list true [],.bool false]
theorem ML (v:List F):oH (some v)=.tup [.list v.isEmpty (Ab (iv v)),.bool true]:=rfl
theorem Pe:oH none=.tup [.list true [],.bool false]:=rfl
def Re (L i:Nat):List F:=(List.range L).map fun j=>WN L i j
def GD (L P:Nat) (w:List F):List F:=(List.range P).map fun i=>FS w (Re L i)
theorem Rr (L P:Nat) (w:List F):(GD L P w).length=P:=by simp[GD]
theorem I8 (L P:Nat) (w:List F) (i:Nat) (h:i<P):(GD L P w)[i]?.getD 0=FS w (Re L i):=by simp[GD,h]
theorem MV (L i:Nat):(Re L i).length=L:=by simp[Re]
theorem Rd (L i j:Nat) (h:j<L):(Re L i)[j]?.getD 0=WN L i j:=by simp[Re,h]
theorem X3 (w c:List F) (j:Nat) (hw:j<w.length) (hc:j<c.length):fa (FS (w.take j) (c.take j)) (fm (w[j]?.getD 0) (c[j]?.getD 0))=FS (w.take (j+1)) (c.take (j+1)):=by
 rw[←Bb w 0 j hw,←Bb c 0 j hc,Si]
 simp;omega
theorem ak:∀b:F,ov 0 b=0:=by decide +kernel
theorem iQ:∀p a:F,p≠0->fm p (ov a p)=a:=by decide +kernel
theorem Uq (r o:List F) (h:r.length=o.length):Du r o 0=r:=by
 apply Xo (Hz r o 0 h)
 intro j _
 rw[Lr _ _ _ _ h,Dj,C8]
theorem nH (i n:Nat) (hi:i<=100) (hn:n<=100):IntKind.i64.wrap ((i:Int)*(n:Int))=((i*n:Nat):Int):=by
 have:i*n<=100*100:=Nat.mul_le_mul hi hn
 rw[←Int.natCast_mul,AZ _ (by omega)]
attribute [local congr] Bm A' BA Au Bn Az A1 A0 Ar Al Af Aa Aw Ag Ax BM BQ BO BP BN BR BG Aj Ay Ak BE BX Ai BK BL BF BH BJ BI BC BD A_ Bp BB Av Ah
attribute [local irreducible] IntKind.wrap A3 Option.getD and or
theorem KI (L P:Nat) (n1 n2:Bool) (w:List F) (at_:List Nat) (hL:L<=15) (hL1:1<=L) (hP:1<=P) (hP2:P<=15) (hw:w.length=L) (hp:YZ L at_) (hm:at_.length<=P) :
    CA E0 NG [QM L P,.list n1 (Ab (iv w)),.list n2 (Ab (ni at_))] (oH (HN L P at_ (GD L P w))):=by
  obtain⟨s,hse⟩:∃s,GD L P w=s:=⟨_,rfl⟩
  have hs:s.length=P:=by rw[←hse];exact Rr L P w
  rw[hse]
  have el:(K4 L P at_ s).length=P:=(MT L P at_ s).len
  have hwL:IntKind.i64.wrap ((L:Int)-1)=((L-1:Nat):Int):=by rw[AZ _ (by omega)];omega
  refine AL Q_ An (by simp) fun hwf=>?_
  rw[AR];unfold LJ
  (try (simp -implicitDefEqProofs only[go_sem,Bc]));repeat' first|(with_reducible first|exact tI|refine aI ?_ ?_|intro _)|((first|with_reducible refine AK ?_ ?_<;>intro _)<;>try (simp -implicitDefEqProofs only[go_sem,Bc]))|simp (disch:=omega) only[Ae]|((with_reducible refine Bf ?_);refine⟨(_,_,_,_),rfl,?_,?_⟩)|((with_reducible refine Ao ?_);refine⟨(_,_,_),rfl,?_,?_⟩)|((with_reducible refine Ap ?_);refine⟨(_,_),rfl,?_,?_⟩)|((with_reducible refine Ad ?_);refine⟨_,rfl,?_,?_⟩)
  refine AX (α:=Nat×Bool×(List Nat)×(List (List F))) (l0:=?l1) (m0:=?m1) (fun x=>[(9,.d (.int .i64 (x.1:Int)))]) (fun x=>[(78,.mat 29 3 x.2.1 x.2.2.1 (Ep x.2.2.2))]) (fun x=>x.1<=P/\x.2.2.2=(K4 L P at_ s).take x.1/\x.2.2.1=List.range x.1/\x.2.1=decide (x.1=0)) (fun x=>P-x.1) (0,true,[],[]) ?h01 ?he1 ?he21 ?hI1 ?step1
  case h01=>(simp -implicitDefEqProofs only[go_sem];rfl)
  case he1=>rfl
  case he21=>rfl
  case' step1=>(rintro⟨i,nl,ix,R⟩ hI;try dsimp only at hI)
  case' hI1=>try dsimp only
  · exact⟨by omega,by simp,rfl,rfl⟩
  · obtain⟨h1,h2,h3,h4⟩:=hI
    have hR:R.length=i:=by rw[h2];simp;omega
    by_cases h:i<P
    · have h':(i:Int)<(P:Int):=by omega
      have hwi:IntKind.i64.wrap ((i:Int)+1)=((i+1:Nat):Int):=by rw[AZ _ (by omega)];omega
      (try (simp -implicitDefEqProofs only[go_sem,h',Bc]));repeat' first|(with_reducible first|exact tI|refine aI ?_ ?_|intro _)|((first|with_reducible refine AK ?_ ?_<;>intro _)<;>try (simp -implicitDefEqProofs only[go_sem,h',Bc]))|simp (disch:=omega) only[Ae]|((with_reducible refine Bf ?_);refine⟨(_,_,_,_),rfl,?_,?_⟩)|((with_reducible refine Ao ?_);refine⟨(_,_,_),rfl,?_,?_⟩)|((with_reducible refine Ap ?_);refine⟨(_,_),rfl,?_,?_⟩)|((with_reducible refine Ad ?_);refine⟨_,rfl,?_,?_⟩)
      all_goals first|omega|(simp<;>omega)|skip
      refine AX (α:=Nat×Bool×(List F)) (l0:=?l2) (m0:=?m2) (fun x=>[(11,.d (.int .i64 (x.1:Int)))]) (fun x=>[(49,.row 3 1 x.2.1 (Ab (iv x.2.2)))]) (fun x=>x.1<=at_.length/\x.2.2=(at_.take x.1).map (fun q=>WN L i q)/\x.2.1=x.2.2.isEmpty) (fun x=>at_.length-x.1) (0,true,[]) ?h02 ?he2 ?he22 ?hI2 ?step2
      case h02=>(simp -implicitDefEqProofs only[go_sem];rfl)
      case he2=>rfl
      case he22=>rfl
      case' step2=>(rintro⟨j,b,r⟩ hI2;try dsimp only at hI2)
      case' hI2=>try dsimp only
      · exact⟨by omega,rfl,rfl⟩
      · obtain⟨q1,q2,q3⟩:=hI2
        have hrl:r.length=j:=by rw[q2];simp;omega
        by_cases hj:j<at_.length
        · have hj':(j:Int)<(at_.length:Int):=by omega
          have hwj:IntKind.i64.wrap ((j:Int)+1)=((j+1:Nat):Int):=by rw[AZ _ (by omega)];omega
          have hlt:=hp.lt (at_[j]?.getD 0) (by rw[SU _ _ hj];exact List.getElem_mem hj)
          have hwq:IntKind.i64.wrap (((L-1:Nat):Int)-((at_[j]?.getD 0:Nat):Int))=((L-1-at_[j]?.getD 0:Nat):Int):=by rw[AZ _ (by omega)];omega
          have hwm:=nH i (L-1-at_[j]?.getD 0) (by omega) (by omega)
          have c1:=KJ (i*(L-1-at_[j]?.getD 0)%15) (by omega)
          rw[Nc] at c1
          have hk:r++[WN L i (at_[j]?.getD 0)]=(at_.take (j+1)).map (fun q=>WN L i q):=by
            rw[q2,←Bb at_ 0 j hj];simp
          (try (simp -implicitDefEqProofs only[go_sem,hj',hwj,hwL,hwq,hwm,Pa]));repeat' first|(with_reducible first|exact tI|refine aI ?_ ?_|intro _)|((first|with_reducible refine AK ?_ ?_<;>intro _|(with_reducible refine isCall ?_);first|refine AE c1 ?_)<;>try (simp -implicitDefEqProofs only[go_sem,hj',hwj,hwL,hwq,hwm,Pa]))|simp (disch:=omega) only[Ae]|((with_reducible refine Bf ?_);refine⟨(_,_,_,_),rfl,?_,?_⟩)|((with_reducible refine Ao ?_);refine⟨(_,_,_),rfl,?_,?_⟩)|((with_reducible refine Ap ?_);refine⟨(_,_),rfl,?_,?_⟩)|((with_reducible refine Ad ?_);refine⟨_,rfl,?_,?_⟩)
          all_goals first|omega|(simp<;>omega)|skip
          all_goals first|exact hk|(exact(Le _ _).symm)|(simp at *;done)|(simp at *;omega)|skip
        · have hj':¬(j:Int)<(at_.length:Int):=by omega
          have hjj:j=at_.length:=by omega
          have hil:ix.length=i:=by rw[h3];simp
          (try (simp -implicitDefEqProofs only[go_sem,hj',hwi]));repeat' first|(with_reducible first|exact tI|refine aI ?_ ?_|intro _)|((first|with_reducible refine AK ?_ ?_<;>intro _)<;>try (simp -implicitDefEqProofs only[go_sem,hj',hwi]))|simp (disch:=omega) only[Ae]|((with_reducible refine Bf ?_);refine⟨(_,_,_,_),rfl,?_,?_⟩)|((with_reducible refine Ao ?_);refine⟨(_,_,_),rfl,?_,?_⟩)|((with_reducible refine Ap ?_);refine⟨(_,_),rfl,?_,?_⟩)|((with_reducible refine Ad ?_);refine⟨_,rfl,?_,?_⟩)
          all_goals first|omega|(simp<;>omega)|skip
          refine AX (α:=Nat×F) (l0:=?l3) (m0:=?m3) (fun x=>[(13,.d (.int .i64 (x.1:Int))),(12,.d (.int .i64 (x.2.val:Int)))]) (fun x=>[]) (fun x=>x.1<=L/\x.2=FS (w.take x.1) ((Re L i).take x.1)) (fun x=>L-x.1) (0,0) ?h03 ?he3 ?he23 ?hI3 ?step3
          case h03=>(simp -implicitDefEqProofs only[go_sem];rfl)
          case he3=>rfl
          case he23=>rfl
          case' step3=>(rintro⟨t,acc⟩ hI3;try dsimp only at hI3)
          case' hI3=>try dsimp only
          · exact⟨by omega,rfl⟩
          · obtain⟨t1,t2⟩:=hI3
            by_cases ht:t<L
            · have ht':(t:Int)<(L:Int):=by omega
              have hwt:IntKind.i64.wrap ((t:Int)+1)=((t+1:Nat):Int):=by rw[AZ _ (by omega)];omega
              have hwq:IntKind.i64.wrap (((L-1:Nat):Int)-(t:Int))=((L-1-t:Nat):Int):=by rw[AZ _ (by omega)];omega
              have hwm:=nH i (L-1-t) (by omega) (by omega)
              have c1:=KJ (i*(L-1-t)%15) (by omega)
              rw[Nc] at c1
              have c2:=FP (w[t]?.getD 0) (gp (i*(L-1-t)))
              have hk:fa acc (fm (w[t]?.getD 0) (gp (i*(L-1-t))))=FS (w.take (t+1)) ((Re L i).take (t+1)):=by
                rw[t2,←X3 w (Re L i) t (by omega) (by rw[MV];omega),Rd L i t ht];rfl
              (try (simp -implicitDefEqProofs only[go_sem,ht',hwt,hwL,hwq,hwm,Pa,hw]));repeat' first|(with_reducible first|exact tI|refine aI ?_ ?_|intro _)|((first|with_reducible refine AK ?_ ?_<;>intro _|(with_reducible refine isCall ?_);first|refine AE c1 ?_|refine AE c2 ?_)<;>try (simp -implicitDefEqProofs only[go_sem,ht',hwt,hwL,hwq,hwm,Pa,hw]))|simp (disch:=omega) only[Ae]|((with_reducible refine Bf ?_);refine⟨(_,_,_,_),rfl,?_,?_⟩)|((with_reducible refine Ao ?_);refine⟨(_,_,_),rfl,?_,?_⟩)|((with_reducible refine Ap ?_);refine⟨(_,_),rfl,?_,?_⟩)|((with_reducible refine Ad ?_);refine⟨_,rfl,?_,?_⟩)
              all_goals first|omega|(simp<;>omega)|skip
              all_goals first|exact hk|(simp at *;done)|(simp at *;omega)|skip
            · have ht':¬(t:Int)<(L:Int):=by omega
              have hte:t=L:=by omega
              have hacc:acc=s[i]?.getD 0:=by
                rw[t2,hte,←hse,I8 L P w i h,List.take_of_length_le (by omega),List.take_of_length_le (by rw[MV];omega)]
              have hrow:r++[acc]=A4 (K4 L P at_ s) i:=by
                rw[R9 _ _ _ _ _ h,q2,hjj,List.take_length,hacc];rfl
              have hnx:R++[A4 (K4 L P at_ s) i]=(K4 L P at_ s).take (i+1):=by
                rw[h2];exact Bb _ _ _ (by omega)
              have hix:ix++[R.length]=List.range (i+1):=by rw[h3,hR,List.range_succ]
              (try (simp -implicitDefEqProofs only[go_sem,ht',hwi,hrow,hnx,hix]));repeat' first|(with_reducible first|exact tI|refine aI ?_ ?_|intro _)|((first|with_reducible refine AK ?_ ?_<;>intro _)<;>try (simp -implicitDefEqProofs only[go_sem,ht',hwi,hrow,hnx,hix]))|simp (disch:=omega) only[Ae]|((with_reducible refine Bf ?_);refine⟨(_,_,_,_),rfl,?_,?_⟩)|((with_reducible refine Ao ?_);refine⟨(_,_,_),rfl,?_,?_⟩)|((with_reducible refine Ap ?_);refine⟨(_,_),rfl,?_,?_⟩)|((with_reducible refine Ad ?_);refine⟨_,rfl,?_,?_⟩)
              all_goals first|omega|(simp<;>omega)|skip
              all_goals first|rfl|exact hix|(rw[h3];exact List.range_succ.symm)|exact List.range_succ.symm|(simp at *;done)|(simp at *;omega)|skip
    · have h':¬(i:Int)<(P:Int):=by omega
      have hi:i=P:=by omega
      subst hi
      have e2:R=K4 L i at_ s:=by rw[h2,List.take_of_length_le (by omega)]
      have e4:nl=false:=by rw[h4];simp;omega
      subst e4
      clear h4
      subst e2 h3
      (try (simp -implicitDefEqProofs only[go_sem,h',Bc]));repeat' first|(with_reducible first|exact tI|refine aI ?_ ?_|intro _)|((first|with_reducible refine AK ?_ ?_<;>intro _)<;>try (simp -implicitDefEqProofs only[go_sem,h',Bc]))|simp (disch:=omega) only[Ae]|((with_reducible refine Bf ?_);refine⟨(_,_,_,_),rfl,?_,?_⟩)|((with_reducible refine Ao ?_);refine⟨(_,_,_),rfl,?_,?_⟩)|((with_reducible refine Ap ?_);refine⟨(_,_),rfl,?_,?_⟩)|((with_reducible refine Ad ?_);refine⟨_,rfl,?_,?_⟩)
      all_goals first|omega|(simp<;>omega)|skip
      refine AX (α:=Nat×(List Nat)×(List (List F))) (l0:=?l4) (m0:=?m4) (fun x=>[(14,.d (.int .i64 (x.1:Int)))]) (fun x=>[(78,.mat 29 3 false x.2.1 (Ep x.2.2))]) (fun x=>x.1<=at_.length/\Ur L i at_ s x.2.1 x.2.2 x.1) (fun x=>at_.length-x.1) (0,(List.range i),(K4 L i at_ s)) ?h04 ?he4 ?he24 ?hI4 ?step4
      case h04=>(simp -implicitDefEqProofs only[go_sem];rfl)
      case he4=>rfl
      case he24=>rfl
      case' step4=>(rintro⟨k,ix,R⟩ hI4;try dsimp only at hI4)
      case' hI4=>try dsimp only
      · exact⟨by omega,Ur.start⟩
      · obtain⟨k1,k2⟩:=hI4
        have li:=k2.pq.li
        have lr:=k2.pq.lr
        by_cases hk:k<at_.length
        · have hk':(k:Int)<(at_.length:Int):=by omega
          have hwk:IntKind.i64.wrap ((k:Int)+1)=((k+1:Nat):Int):=by rw[AZ _ (by omega)];omega
          (try (simp -implicitDefEqProofs only[go_sem,hk']));repeat' first|(with_reducible first|exact tI|refine aI ?_ ?_|intro _)|((first|with_reducible refine AK ?_ ?_<;>intro _)<;>try (simp -implicitDefEqProofs only[go_sem,hk']))|simp (disch:=omega) only[Ae]|((with_reducible refine Bf ?_);refine⟨(_,_,_,_),rfl,?_,?_⟩)|((with_reducible refine Ao ?_);refine⟨(_,_,_),rfl,?_,?_⟩)|((with_reducible refine Ap ?_);refine⟨(_,_),rfl,?_,?_⟩)|((with_reducible refine Ad ?_);refine⟨_,rfl,?_,?_⟩)
          all_goals first|omega|(simp<;>omega)|skip
          refine AX (α:=Nat×Int) (l0:=?l5) (m0:=?m5) (fun x=>[(16,.d (.int .i64 (x.1:Int))),(15,.d (.int .i64 x.2))]) (fun x=>[]) (fun x=>k<=x.1/\x.1<=i/\((x.2=-1/\∀q,k<=q->q<x.1->CV (lm ix R) q k=0)\/∃fp:Nat,x.2=(fp:Int)/\k<=fp/\fp<i/\CV (lm ix R) fp k≠0)) (fun x=>i-x.1) (k,-1) ?h05 ?he5 ?he25 ?hI5 ?step5
          case h05=>(simp -implicitDefEqProofs only[go_sem];rfl)
          case he5=>rfl
          case he25=>rfl
          case' step5=>(rintro⟨f,p⟩ hI5;try dsimp only at hI5)
          case' hI5=>try dsimp only
          · exact⟨by omega,by omega,.inl ⟨rfl,fun q _ _=>by omega⟩⟩
          · obtain⟨f1,f2,f3⟩:=hI5
            by_cases hgo:f<i/\p<0
            · obtain⟨hf,hp0⟩:=hgo
              have f3':∀q,k<=q->q<f->CV (lm ix R) q k=0:=by
                rcases f3 with⟨_,f3⟩|⟨fp,f3,_⟩
                · exact f3
                · omega
              have hpm:p=-1:=by
                rcases f3 with⟨f3,_⟩|⟨fp,f3,_⟩
                · exact f3
                · omega
              clear f3
              have hf':(f:Int)<(ix.length:Int):=by omega
              have hwf1:IntKind.i64.wrap ((f:Int)+1)=((f+1:Nat):Int):=by rw[AZ _ (by omega)];omega
              have a1:ix[f]?.getD 0<R.length:=by rw[lr];exact k2.pq.ix_lt hf
              have rl:(R[ix[f]?.getD 0]?.getD []).length=at_.length+1:=k2.rlen hf
              have ee:(R[ix[f]?.getD 0]?.getD [])[k]?.getD 0=CV (lm ix R) f k:=by
                show _=EY (A4 (lm ix R) f) k
                rw[D_ k2.pq hf];rfl
              by_cases hz:CV (lm ix R) f k=0
              · have hnx:(p=-1/\∀q,k<=q->q<f+1->CV (lm ix R) q k=0)\/∃fp:Nat,p=(fp:Int)/\k<=fp/\fp<i/\CV (lm ix R) fp k≠0:=.inl ⟨hpm,fun q q1 q2=>by
                  rcases Nat.lt_succ_iff_lt_or_eq.1 q2 with q2|rfl
                  · exact f3' q q1 q2
                  · exact hz⟩
                (try (simp -implicitDefEqProofs only[go_sem,hf',hp0,hwf1,ee,hz,a1,rl]));repeat' first|(with_reducible first|exact tI|refine aI ?_ ?_|intro _)|((first|with_reducible refine AK ?_ ?_<;>intro _)<;>try (simp -implicitDefEqProofs only[go_sem,hf',hp0,hwf1,ee,hz,a1,rl]))|simp (disch:=omega) only[Ae]|((with_reducible refine Bf ?_);refine⟨(_,_,_,_),rfl,?_,?_⟩)|((with_reducible refine Ao ?_);refine⟨(_,_,_),rfl,?_,?_⟩)|((with_reducible refine Ap ?_);refine⟨(_,_),rfl,?_,?_⟩)|((with_reducible refine Ad ?_);refine⟨_,rfl,?_,?_⟩)
                all_goals first|omega|(simp<;>omega)|skip
                all_goals first|exact hnx|skip
              · have hnx:((f:Int)=-1/\∀q,k<=q->q<f+1->CV (lm ix R) q k=0)\/∃fp:Nat,(f:Int)=(fp:Int)/\k<=fp/\fp<i/\CV (lm ix R) fp k≠0:=.inr ⟨f,rfl,f1,hf,hz⟩
                (try (simp -implicitDefEqProofs only[go_sem,hf',hp0,hwf1,ee,hz,a1,rl]));repeat' first|(with_reducible first|exact tI|refine aI ?_ ?_|intro _)|((first|with_reducible refine AK ?_ ?_<;>intro _)<;>try (simp -implicitDefEqProofs only[go_sem,hf',hp0,hwf1,ee,hz,a1,rl]))|simp (disch:=omega) only[Ae]|((with_reducible refine Bf ?_);refine⟨(_,_,_,_),rfl,?_,?_⟩)|((with_reducible refine Ao ?_);refine⟨(_,_,_),rfl,?_,?_⟩)|((with_reducible refine Ap ?_);refine⟨(_,_),rfl,?_,?_⟩)|((with_reducible refine Ad ?_);refine⟨_,rfl,?_,?_⟩)
                all_goals first|omega|(simp<;>omega)|skip
                all_goals first|exact hnx|skip
            · have hgo':((f:Int)<(ix.length:Int))->¬p<0:=fun h1 h2=>hgo ⟨by omega,h2⟩
              rcases f3 with⟨hpm,f3⟩|⟨fp,hpe,f4,f5,hnz⟩
              · have hfe:f=i:=by omega
                exact(k2.fail hL hp hm hk fun q q1 q2=>f3 q q1 (by omega)).elim
              · subst hpe
                have hp0:¬(fp:Int)<0:=by omega
                obtain⟨p1,p2,p3⟩:=bA k2.pq (show k<i by omega) f5
                obtain⟨I,hIe⟩:∃I,(ix.set k (ix[fp]?.getD 0)).set fp (ix[k]?.getD 0)=I:=⟨_,rfl⟩
                rw[show GC ix fp=ix[fp]?.getD 0 from rfl,show GC ix k=ix[k]?.getD 0 from rfl,hIe] at p1 p2 p3
                have hIl:=p1.li
                have a0:ix[k]?.getD 0<R.length:=by rw[lr];exact k2.pq.ix_lt (show k<i by omega)
                have a1:ix[fp]?.getD 0<R.length:=by rw[lr];exact k2.pq.ix_lt f5
                have hif:k<ix.length:=by omega
                have hif2:fp<ix.length:=by omega
                have hkI:k<I.length:=by omega
                obtain⟨M2,hMe⟩:∃M2,lm I R=M2:=⟨_,rfl⟩
                have hl2:M2.length=i:=by rw[←hMe,G5];exact hIl
                have hS2:Ri M2 i (at_.length+1):=by rw[←hMe,p2];exact k2.shp.swp (show k<i by omega) f5
                have hpv:CV M2 k k=CV (lm ix R) fp k:=by rw[←hMe,p2];exact Vs k2.shp (show k<i by omega) f5 k
                have hpnz:CV M2 k k≠0:=by rw[hpv];exact hnz
                (try (simp -implicitDefEqProofs only[go_sem,hgo',hp0,hIe,a0,a1,hif,hif2,hkI,List.length_set]));repeat' first|(with_reducible first|exact tI|refine aI ?_ ?_|intro _)|((first|with_reducible refine AK ?_ ?_<;>intro _)<;>try (simp -implicitDefEqProofs only[go_sem,hgo',hp0,hIe,a0,a1,hif,hif2,hkI,List.length_set]))|simp (disch:=omega) only[Ae]|((with_reducible refine Bf ?_);refine⟨(_,_,_,_),rfl,?_,?_⟩)|((with_reducible refine Ao ?_);refine⟨(_,_,_),rfl,?_,?_⟩)|((with_reducible refine Ap ?_);refine⟨(_,_),rfl,?_,?_⟩)|((with_reducible refine Ad ?_);refine⟨_,rfl,?_,?_⟩)
                all_goals first|omega|(simp<;>omega)|skip
                · refine AX (α:=Nat×(List (List F))) (l0:=?l6) (m0:=?m6) (fun x=>[(17,.d (.int .i64 (x.1:Int)))]) (fun x=>[(78,.mat 29 3 false I (Ep x.2))]) (fun x=>x.1<=i/\PQ i I x.2/\lm I x.2=(Bg ov M2 k).take x.1++M2.drop x.1) (fun x=>i-x.1) (0,R) ?h06 ?he6 ?he26 ?hI6 ?step6
                  case h06=>(simp -implicitDefEqProofs only[go_sem];rfl)
                  case he6=>rfl
                  case he26=>rfl
                  case' step6=>(rintro⟨i6,Q⟩ hI6;try dsimp only at hI6)
                  case' hI6=>try dsimp only
                  · exact⟨by omega,p1,by rw[hMe];simp⟩
                  · obtain⟨t1,t2,t3⟩:=hI6
                    by_cases h6:i6<i
                    · have h6':(i6:Int)<(I.length:Int):=by omega
                      have hw6:IntKind.i64.wrap ((i6:Int)+1)=((i6+1:Nat):Int):=by rw[AZ _ (by omega)];omega
                      by_cases hik:i6=k
                      · subst hik
                        have hnx:lm I Q=(Bg ov M2 i6).take (i6+1)++M2.drop (i6+1):=by rw[t3];exact SF (by omega)
                        (try (simp -implicitDefEqProofs only[go_sem,h6',hw6]));repeat' first|(with_reducible first|exact tI|refine aI ?_ ?_|intro _)|((first|with_reducible refine AK ?_ ?_<;>intro _)<;>try (simp -implicitDefEqProofs only[go_sem,h6',hw6]))|simp (disch:=omega) only[Ae]|((with_reducible refine Bf ?_);refine⟨(_,_,_,_),rfl,?_,?_⟩)|((with_reducible refine Ao ?_);refine⟨(_,_,_),rfl,?_,?_⟩)|((with_reducible refine Ap ?_);refine⟨(_,_),rfl,?_,?_⟩)|((with_reducible refine Ad ?_);refine⟨_,rfl,?_,?_⟩)
                        all_goals first|omega|(simp<;>omega)|skip
                        all_goals first|exact hnx|exact t2|skip
                      · have hik':¬(i6:Int)=(k:Int):=by omega
                        have b1:I[i6]?.getD 0<Q.length:=by rw[t2.lr];exact t2.ix_lt h6
                        have b2:I[k]?.getD 0<Q.length:=by rw[t2.lr];exact t2.ix_lt (show k<i by omega)
                        have e6:Q[I[i6]?.getD 0]?.getD []=A4 M2 i6:=by
                          have:=D_ t2 h6
                          rw[t3,VJ (by omega)] at this
                          exact this.symm
                        have ek:Q[I[k]?.getD 0]?.getD []=A4 M2 k:=by
                          have:=D_ t2 (show k<i by omega)
                          rw[t3,SG (by omega) (by omega)] at this
                          exact this.symm
                        have l6:=hS2.row i6 h6
                        have lk:=hS2.row k (by omega)
                        have hne:I[i6]?.getD 0≠I[k]?.getD 0:=fun e=>hik (t2.ix_inj h6 (show k<i by omega) e)
                        have ek2:(A4 M2 i6)[k]?.getD 0=CV M2 i6 k:=rfl
                        have ek3:(A4 M2 k)[k]?.getD 0=CV M2 k k:=rfl
                        have hI6l:i6<I.length:=by omega
                        have hk6:k<at_.length+1:=by omega
                        obtain⟨by_,hby⟩:∃y,ov (CV M2 i6 k) (CV M2 k k)=y:=⟨_,rfl⟩
                        have hnx:lm I (Q.set (I[i6]?.getD 0) (Du (A4 M2 i6) (A4 M2 k) by_))=(Bg ov M2 k).take (i6+1)++M2.drop (i6+1):=by
                          have:=VX t2 h6 (Du (A4 M2 i6) (A4 M2 k) by_)
                          rw[show GC I i6=I[i6]?.getD 0 from rfl] at this
                          rw[this,t3,←hby]
                          exact SH (by omega) hik
                        by_cases hz6:CV M2 i6 k=0
                        · have hQ:Q.set (I[i6]?.getD 0) (Du (A4 M2 i6) (A4 M2 k) by_)=Q:=by
                            rw[←hby,hz6,ak,Uq _ _ (by rw[l6,lk]),←e6];exact Pf b1
                          rw[hQ] at hnx
                          (try (simp -implicitDefEqProofs only[go_sem,h6',hw6,hik',b1,e6,ek2,l6,hI6l,hz6]));repeat' first|(with_reducible first|exact tI|refine aI ?_ ?_|intro _)|((first|with_reducible refine AK ?_ ?_<;>intro _)<;>try (simp -implicitDefEqProofs only[go_sem,h6',hw6,hik',b1,e6,ek2,l6,hI6l,hz6]))|simp (disch:=omega) only[Ae]|((with_reducible refine Bf ?_);refine⟨(_,_,_,_),rfl,?_,?_⟩)|((with_reducible refine Ao ?_);refine⟨(_,_,_),rfl,?_,?_⟩)|((with_reducible refine Ap ?_);refine⟨(_,_),rfl,?_,?_⟩)|((with_reducible refine Ad ?_);refine⟨_,rfl,?_,?_⟩)
                          all_goals first|omega|(simp<;>omega)|skip
                          all_goals first|exact hnx|exact t2|skip
                        · have c6:=Hf (CV M2 i6 k) (CV M2 k k)
                          rw[hby] at c6
                          have hRR:Q.set (I[i6]?.getD 0) (A4 M2 i6)=Q:=by rw[←e6];exact Pf b1
                          have hUR:Ep Q=Ep (Q.set (I[i6]?.getD 0) (A4 M2 i6)):=by rw[hRR]
                          have hA:=Hz (A4 M2 i6) (A4 M2 k) by_ (by rw[l6,lk])
                          (try (simp -implicitDefEqProofs only[go_sem,h6',hw6,hik',b1,b2,e6,ek,ek2,ek3,l6,lk,hI6l,hkI,hz6,hk6]));repeat' first|(with_reducible first|exact tI|refine aI ?_ ?_|intro _)|((first|with_reducible refine AK ?_ ?_<;>intro _|(with_reducible refine isCall ?_);first|refine AE c6 ?_)<;>try (simp -implicitDefEqProofs only[go_sem,h6',hw6,hik',b1,b2,e6,ek,ek2,ek3,l6,lk,hI6l,hkI,hz6,hk6]))|simp (disch:=omega) only[Ae]|((with_reducible refine Bf ?_);refine⟨(_,_,_,_),rfl,?_,?_⟩)|((with_reducible refine Ao ?_);refine⟨(_,_,_),rfl,?_,?_⟩)|((with_reducible refine Ap ?_);refine⟨(_,_),rfl,?_,?_⟩)|((with_reducible refine Ad ?_);refine⟨_,rfl,?_,?_⟩)
                          all_goals first|omega|(simp<;>omega)|skip
                          rw[hUR]
                          refine AX (α:=Nat×(List F)) (l0:=?l7) (m0:=?m7) (fun x=>[(19,.d (.int .i64 (x.1:Int)))]) (fun x=>[(78,.mat 29 3 false I (Ep (Q.set (I[i6]?.getD 0) x.2)))]) (fun x=>x.1<=at_.length+1/\x.2=(Du (A4 M2 i6) (A4 M2 k) by_).take x.1++(A4 M2 i6).drop x.1) (fun x=>at_.length+1-x.1) (0,(A4 M2 i6)) ?h07 ?he7 ?he27 ?hI7 ?step7
                          case h07=>(simp -implicitDefEqProofs only[go_sem];rfl)
                          case he7=>rfl
                          case he27=>rfl
                          case' step7=>(rintro⟨m,r⟩ hI7;try dsimp only at hI7)
                          case' hI7=>try dsimp only
                          · exact⟨by omega,by simp⟩
                          · obtain⟨u1,u2⟩:=hI7
                            have hr:r.length=at_.length+1:=by rw[u2,N6 hA m (by rw[hA];omega),hA,l6]
                            have hBk:(Q.set (I[i6]?.getD 0) r)[I[k]?.getD 0]?.getD []=A4 M2 k:=by rw[fI hne];exact ek
                            by_cases h7:m<at_.length+1
                            · have h7':(m:Int)<=(at_.length:Int):=by omega
                              have hw7:IntKind.i64.wrap ((m:Int)+1)=((m+1:Nat):Int):=by rw[AZ _ (by omega)];omega
                              have c7:=FP by_ ((A4 M2 k)[m]?.getD 0)
                              have g1:r[m]?.getD 0=(A4 M2 i6)[m]?.getD 0:=by rw[u2];exact N7 hA m (by rw[hA];omega)
                              have g2:r.set m (fa ((A4 M2 i6)[m]?.getD 0) (fm by_ ((A4 M2 k)[m]?.getD 0)))=(Du (A4 M2 i6) (A4 M2 k) by_).take (m+1)++(A4 M2 i6).drop (m+1):=by
                                rw[u2,DV,←TM (A4 M2 i6) (A4 M2 k) by_ m (by rw[l6,lk])];exact N5 hA m (by rw[hA];omega)
                              (try (simp -implicitDefEqProofs only[go_sem,h7',hw7,g1,W2 b1,hBk,Wy,hI6l,hkI,b1,b2,lk,List.length_set]));repeat' first|(with_reducible first|exact tI|refine aI ?_ ?_|intro _)|((first|with_reducible refine AK ?_ ?_<;>intro _|(with_reducible refine isCall ?_);first|refine AE c7 ?_)<;>try (simp -implicitDefEqProofs only[go_sem,h7',hw7,g1,W2 b1,hBk,Wy,hI6l,hkI,b1,b2,lk,List.length_set]))|simp (disch:=omega) only[Ae]|((with_reducible refine Bf ?_);refine⟨(_,_,_,_),rfl,?_,?_⟩)|((with_reducible refine Ao ?_);refine⟨(_,_,_),rfl,?_,?_⟩)|((with_reducible refine Ap ?_);refine⟨(_,_),rfl,?_,?_⟩)|((with_reducible refine Ad ?_);refine⟨_,rfl,?_,?_⟩)
                              all_goals first|omega|(simp<;>omega)|skip
                              all_goals first|exact g2|skip
                            · have h7':¬(m:Int)<=(at_.length:Int):=by omega
                              have hre:r=Du (A4 M2 i6) (A4 M2 k) by_:=by
                                have hml:m=(Du (A4 M2 i6) (A4 M2 k) by_).length:=by rw[hA,l6];omega
                                rw[u2,hml];exact N8 hA
                              subst hre
                              have hpq:=t2.set (I[i6]?.getD 0) (Du (A4 M2 i6) (A4 M2 k) by_)
                              (try (simp -implicitDefEqProofs only[go_sem,h7',hw6]));repeat' first|(with_reducible first|exact tI|refine aI ?_ ?_|intro _)|((first|with_reducible refine AK ?_ ?_<;>intro _)<;>try (simp -implicitDefEqProofs only[go_sem,h7',hw6]))|simp (disch:=omega) only[Ae]|((with_reducible refine Bf ?_);refine⟨(_,_,_,_),rfl,?_,?_⟩)|((with_reducible refine Ao ?_);refine⟨(_,_,_),rfl,?_,?_⟩)|((with_reducible refine Ap ?_);refine⟨(_,_),rfl,?_,?_⟩)|((with_reducible refine Ad ?_);refine⟨_,rfl,?_,?_⟩)
                              all_goals first|omega|(simp<;>omega)|skip
                              all_goals first|exact hnx|exact hpq|skip
                    · have h6':¬(i6:Int)<(I.length:Int):=by omega
                      have h6e:i6=i:=by omega
                      have hfin:lm I Q=Bg ov M2 k:=by
                        rw[t3,h6e,←hl2];exact VK
                      obtain⟨st,_⟩:=k2.step (show k<i by omega) f4 f5 hnz (f:=ov) (fun y=>iQ _ y hnz) t2 (by rw[hfin,←hMe,p2])
                      (try (simp -implicitDefEqProofs only[go_sem,h6',hwk]));repeat' first|(with_reducible first|exact tI|refine aI ?_ ?_|intro _)|((first|with_reducible refine AK ?_ ?_<;>intro _)<;>try (simp -implicitDefEqProofs only[go_sem,h6',hwk]))|simp (disch:=omega) only[Ae]|((with_reducible refine Bf ?_);refine⟨(_,_,_,_),rfl,?_,?_⟩)|((with_reducible refine Ao ?_);refine⟨(_,_,_),rfl,?_,?_⟩)|((with_reducible refine Ap ?_);refine⟨(_,_),rfl,?_,?_⟩)|((with_reducible refine Ad ?_);refine⟨_,rfl,?_,?_⟩)
                      all_goals first|omega|(simp<;>omega)|skip
                      all_goals first|exact st|skip
                · refine AX (α:=Nat×(List (List F))) (l0:=?l8) (m0:=?m8) (fun x=>[(17,.d (.int .i64 (x.1:Int)))]) (fun x=>[(78,.mat 29 3 false I (Ep x.2))]) (fun x=>x.1<=i/\PQ i I x.2/\lm I x.2=(Bg ov M2 k).take x.1++M2.drop x.1) (fun x=>i-x.1) (0,R) ?h08 ?he8 ?he28 ?hI8 ?step8
                  case h08=>(simp -implicitDefEqProofs only[go_sem];rfl)
                  case he8=>rfl
                  case he28=>rfl
                  case' step8=>(rintro⟨i6,Q⟩ hI8;try dsimp only at hI8)
                  case' hI8=>try dsimp only
                  · exact⟨by omega,p1,by rw[hMe];simp⟩
                  · obtain⟨t1,t2,t3⟩:=hI8
                    by_cases h6:i6<i
                    · have h6':(i6:Int)<(I.length:Int):=by omega
                      have hw6:IntKind.i64.wrap ((i6:Int)+1)=((i6+1:Nat):Int):=by rw[AZ _ (by omega)];omega
                      by_cases hik:i6=k
                      · subst hik
                        have hnx:lm I Q=(Bg ov M2 i6).take (i6+1)++M2.drop (i6+1):=by rw[t3];exact SF (by omega)
                        (try (simp -implicitDefEqProofs only[go_sem,h6',hw6]));repeat' first|(with_reducible first|exact tI|refine aI ?_ ?_|intro _)|((first|with_reducible refine AK ?_ ?_<;>intro _)<;>try (simp -implicitDefEqProofs only[go_sem,h6',hw6]))|simp (disch:=omega) only[Ae]|((with_reducible refine Bf ?_);refine⟨(_,_,_,_),rfl,?_,?_⟩)|((with_reducible refine Ao ?_);refine⟨(_,_,_),rfl,?_,?_⟩)|((with_reducible refine Ap ?_);refine⟨(_,_),rfl,?_,?_⟩)|((with_reducible refine Ad ?_);refine⟨_,rfl,?_,?_⟩)
                        all_goals first|omega|(simp<;>omega)|skip
                        all_goals first|exact hnx|exact t2|skip
                      · have hik':¬(i6:Int)=(k:Int):=by omega
                        have b1:I[i6]?.getD 0<Q.length:=by rw[t2.lr];exact t2.ix_lt h6
                        have b2:I[k]?.getD 0<Q.length:=by rw[t2.lr];exact t2.ix_lt (show k<i by omega)
                        have e6:Q[I[i6]?.getD 0]?.getD []=A4 M2 i6:=by
                          have:=D_ t2 h6
                          rw[t3,VJ (by omega)] at this
                          exact this.symm
                        have ek:Q[I[k]?.getD 0]?.getD []=A4 M2 k:=by
                          have:=D_ t2 (show k<i by omega)
                          rw[t3,SG (by omega) (by omega)] at this
                          exact this.symm
                        have l6:=hS2.row i6 h6
                        have lk:=hS2.row k (by omega)
                        have hne:I[i6]?.getD 0≠I[k]?.getD 0:=fun e=>hik (t2.ix_inj h6 (show k<i by omega) e)
                        have ek2:(A4 M2 i6)[k]?.getD 0=CV M2 i6 k:=rfl
                        have ek3:(A4 M2 k)[k]?.getD 0=CV M2 k k:=rfl
                        have hI6l:i6<I.length:=by omega
                        have hk6:k<at_.length+1:=by omega
                        obtain⟨by_,hby⟩:∃y,ov (CV M2 i6 k) (CV M2 k k)=y:=⟨_,rfl⟩
                        have hnx:lm I (Q.set (I[i6]?.getD 0) (Du (A4 M2 i6) (A4 M2 k) by_))=(Bg ov M2 k).take (i6+1)++M2.drop (i6+1):=by
                          have:=VX t2 h6 (Du (A4 M2 i6) (A4 M2 k) by_)
                          rw[show GC I i6=I[i6]?.getD 0 from rfl] at this
                          rw[this,t3,←hby]
                          exact SH (by omega) hik
                        by_cases hz6:CV M2 i6 k=0
                        · have hQ:Q.set (I[i6]?.getD 0) (Du (A4 M2 i6) (A4 M2 k) by_)=Q:=by
                            rw[←hby,hz6,ak,Uq _ _ (by rw[l6,lk]),←e6];exact Pf b1
                          rw[hQ] at hnx
                          (try (simp -implicitDefEqProofs only[go_sem,h6',hw6,hik',b1,e6,ek2,l6,hI6l,hz6]));repeat' first|(with_reducible first|exact tI|refine aI ?_ ?_|intro _)|((first|with_reducible refine AK ?_ ?_<;>intro _)<;>try (simp -implicitDefEqProofs only[go_sem,h6',hw6,hik',b1,e6,ek2,l6,hI6l,hz6]))|simp (disch:=omega) only[Ae]|((with_reducible refine Bf ?_);refine⟨(_,_,_,_),rfl,?_,?_⟩)|((with_reducible refine Ao ?_);refine⟨(_,_,_),rfl,?_,?_⟩)|((with_reducible refine Ap ?_);refine⟨(_,_),rfl,?_,?_⟩)|((with_reducible refine Ad ?_);refine⟨_,rfl,?_,?_⟩)
                          all_goals first|omega|(simp<;>omega)|skip
                          all_goals first|exact hnx|exact t2|skip
                        · have c6:=Hf (CV M2 i6 k) (CV M2 k k)
                          rw[hby] at c6
                          have hRR:Q.set (I[i6]?.getD 0) (A4 M2 i6)=Q:=by rw[←e6];exact Pf b1
                          have hUR:Ep Q=Ep (Q.set (I[i6]?.getD 0) (A4 M2 i6)):=by rw[hRR]
                          have hA:=Hz (A4 M2 i6) (A4 M2 k) by_ (by rw[l6,lk])
                          (try (simp -implicitDefEqProofs only[go_sem,h6',hw6,hik',b1,b2,e6,ek,ek2,ek3,l6,lk,hI6l,hkI,hz6,hk6]));repeat' first|(with_reducible first|exact tI|refine aI ?_ ?_|intro _)|((first|with_reducible refine AK ?_ ?_<;>intro _|(with_reducible refine isCall ?_);first|refine AE c6 ?_)<;>try (simp -implicitDefEqProofs only[go_sem,h6',hw6,hik',b1,b2,e6,ek,ek2,ek3,l6,lk,hI6l,hkI,hz6,hk6]))|simp (disch:=omega) only[Ae]|((with_reducible refine Bf ?_);refine⟨(_,_,_,_),rfl,?_,?_⟩)|((with_reducible refine Ao ?_);refine⟨(_,_,_),rfl,?_,?_⟩)|((with_reducible refine Ap ?_);refine⟨(_,_),rfl,?_,?_⟩)|((with_reducible refine Ad ?_);refine⟨_,rfl,?_,?_⟩)
                          all_goals first|omega|(simp<;>omega)|skip
                          rw[hUR]
                          refine AX (α:=Nat×(List F)) (l0:=?l9) (m0:=?m9) (fun x=>[(19,.d (.int .i64 (x.1:Int)))]) (fun x=>[(78,.mat 29 3 false I (Ep (Q.set (I[i6]?.getD 0) x.2)))]) (fun x=>x.1<=at_.length+1/\x.2=(Du (A4 M2 i6) (A4 M2 k) by_).take x.1++(A4 M2 i6).drop x.1) (fun x=>at_.length+1-x.1) (0,(A4 M2 i6)) ?h09 ?he9 ?he29 ?hI9 ?step9
                          case h09=>(simp -implicitDefEqProofs only[go_sem];rfl)
                          case he9=>rfl
                          case he29=>rfl
                          case' step9=>(rintro⟨m,r⟩ hI9;try dsimp only at hI9)
                          case' hI9=>try dsimp only
                          · exact⟨by omega,by simp⟩
                          · obtain⟨u1,u2⟩:=hI9
                            have hr:r.length=at_.length+1:=by rw[u2,N6 hA m (by rw[hA];omega),hA,l6]
                            have hBk:(Q.set (I[i6]?.getD 0) r)[I[k]?.getD 0]?.getD []=A4 M2 k:=by rw[fI hne];exact ek
                            by_cases h7:m<at_.length+1
                            · have h7':(m:Int)<=(at_.length:Int):=by omega
                              have hw7:IntKind.i64.wrap ((m:Int)+1)=((m+1:Nat):Int):=by rw[AZ _ (by omega)];omega
                              have c7:=FP by_ ((A4 M2 k)[m]?.getD 0)
                              have g1:r[m]?.getD 0=(A4 M2 i6)[m]?.getD 0:=by rw[u2];exact N7 hA m (by rw[hA];omega)
                              have g2:r.set m (fa ((A4 M2 i6)[m]?.getD 0) (fm by_ ((A4 M2 k)[m]?.getD 0)))=(Du (A4 M2 i6) (A4 M2 k) by_).take (m+1)++(A4 M2 i6).drop (m+1):=by
                                rw[u2,DV,←TM (A4 M2 i6) (A4 M2 k) by_ m (by rw[l6,lk])];exact N5 hA m (by rw[hA];omega)
                              (try (simp -implicitDefEqProofs only[go_sem,h7',hw7,g1,W2 b1,hBk,Wy,hI6l,hkI,b1,b2,lk,List.length_set]));repeat' first|(with_reducible first|exact tI|refine aI ?_ ?_|intro _)|((first|with_reducible refine AK ?_ ?_<;>intro _|(with_reducible refine isCall ?_);first|refine AE c7 ?_)<;>try (simp -implicitDefEqProofs only[go_sem,h7',hw7,g1,W2 b1,hBk,Wy,hI6l,hkI,b1,b2,lk,List.length_set]))|simp (disch:=omega) only[Ae]|((with_reducible refine Bf ?_);refine⟨(_,_,_,_),rfl,?_,?_⟩)|((with_reducible refine Ao ?_);refine⟨(_,_,_),rfl,?_,?_⟩)|((with_reducible refine Ap ?_);refine⟨(_,_),rfl,?_,?_⟩)|((with_reducible refine Ad ?_);refine⟨_,rfl,?_,?_⟩)
                              all_goals first|omega|(simp<;>omega)|skip
                              all_goals first|exact g2|skip
                            · have h7':¬(m:Int)<=(at_.length:Int):=by omega
                              have hre:r=Du (A4 M2 i6) (A4 M2 k) by_:=by
                                have hml:m=(Du (A4 M2 i6) (A4 M2 k) by_).length:=by rw[hA,l6];omega
                                rw[u2,hml];exact N8 hA
                              subst hre
                              have hpq:=t2.set (I[i6]?.getD 0) (Du (A4 M2 i6) (A4 M2 k) by_)
                              (try (simp -implicitDefEqProofs only[go_sem,h7',hw6]));repeat' first|(with_reducible first|exact tI|refine aI ?_ ?_|intro _)|((first|with_reducible refine AK ?_ ?_<;>intro _)<;>try (simp -implicitDefEqProofs only[go_sem,h7',hw6]))|simp (disch:=omega) only[Ae]|((with_reducible refine Bf ?_);refine⟨(_,_,_,_),rfl,?_,?_⟩)|((with_reducible refine Ao ?_);refine⟨(_,_,_),rfl,?_,?_⟩)|((with_reducible refine Ap ?_);refine⟨(_,_),rfl,?_,?_⟩)|((with_reducible refine Ad ?_);refine⟨_,rfl,?_,?_⟩)
                              all_goals first|omega|(simp<;>omega)|skip
                              all_goals first|exact hnx|exact hpq|skip
                    · have h6':¬(i6:Int)<(I.length:Int):=by omega
                      have h6e:i6=i:=by omega
                      have hfin:lm I Q=Bg ov M2 k:=by
                        rw[t3,h6e,←hl2];exact VK
                      obtain⟨st,_⟩:=k2.step (show k<i by omega) f4 f5 hnz (f:=ov) (fun y=>iQ _ y hnz) t2 (by rw[hfin,←hMe,p2])
                      (try (simp -implicitDefEqProofs only[go_sem,h6',hwk]));repeat' first|(with_reducible first|exact tI|refine aI ?_ ?_|intro _)|((first|with_reducible refine AK ?_ ?_<;>intro _)<;>try (simp -implicitDefEqProofs only[go_sem,h6',hwk]))|simp (disch:=omega) only[Ae]|((with_reducible refine Bf ?_);refine⟨(_,_,_,_),rfl,?_,?_⟩)|((with_reducible refine Ao ?_);refine⟨(_,_,_),rfl,?_,?_⟩)|((with_reducible refine Ap ?_);refine⟨(_,_),rfl,?_,?_⟩)|((with_reducible refine Ad ?_);refine⟨_,rfl,?_,?_⟩)
                      all_goals first|omega|(simp<;>omega)|skip
                      all_goals first|exact st|skip
        · have hk':¬(k:Int)<(at_.length:Int):=by omega
          have hke:k=at_.length:=by omega
          subst hke
          obtain⟨N,hN⟩:∃N,lm ix R=N:=⟨_,rfl⟩
          have hNl:N.length=i:=by rw[←hN,G5];exact li
          have hmat:Il ix (Ep R)=N.map fun r=>.list false (Ab (iv r)):=by
            rw[ZP fun j hj=>by rw[lr];exact k2.pq.lt j hj,←hN];rfl
          have hS:=k2.shp
          have hD:=k2.red.dia
          rw[hN] at hS hD
          (try (simp -implicitDefEqProofs only[go_sem,hk',hmat]));repeat' first|(with_reducible first|exact tI|refine aI ?_ ?_|intro _)|((first|with_reducible refine AK ?_ ?_<;>intro _)<;>try (simp -implicitDefEqProofs only[go_sem,hk',hmat]))|simp (disch:=omega) only[Ae]|((with_reducible refine Bf ?_);refine⟨(_,_,_,_),rfl,?_,?_⟩)|((with_reducible refine Ao ?_);refine⟨(_,_,_),rfl,?_,?_⟩)|((with_reducible refine Ap ?_);refine⟨(_,_),rfl,?_,?_⟩)|((with_reducible refine Ad ?_);refine⟨_,rfl,?_,?_⟩)
          all_goals first|omega|(simp<;>omega)|skip
          refine AX (α:=Nat) (l0:=?l10) (m0:=?m10) (fun x=>[(20,.d (.int .i64 (x:Int)))]) (fun x=>[]) (fun x=>at_.length<=x/\x<=i/\∀q,at_.length<=q->q<x->CV N q at_.length=0) (fun x=>i-x) at_.length ?h010 ?he10 ?he210 ?hI10 ?step10
          case h010=>(simp -implicitDefEqProofs only[go_sem];rfl)
          case he10=>rfl
          case he210=>rfl
          case' step10=>(rintro t hI10;try dsimp only at hI10)
          case' hI10=>try dsimp only
          · exact⟨by omega,by omega,fun q _ _=>by omega⟩
          · obtain⟨u1,u2,u3⟩:=hI10
            by_cases h7:t<i
            · have h7':(t:Int)<(i:Int):=by omega
              have hw7:IntKind.i64.wrap ((t:Int)+1)=((t+1:Nat):Int):=by rw[AZ _ (by omega)];omega
              have er:N[t]?.getD default=A4 N t:=rfl
              have lr7:=hS.row t h7
              have ee7:(A4 N t)[at_.length]?.getD 0=CV N t at_.length:=rfl
              by_cases hz7:CV N t at_.length=0
              · (try (simp -implicitDefEqProofs only[go_sem,h7',hw7,hNl,er,lr7,ee7,hz7]));repeat' first|(with_reducible first|exact tI|refine aI ?_ ?_|intro _)|((first|with_reducible refine AK ?_ ?_<;>intro _)<;>try (simp -implicitDefEqProofs only[go_sem,h7',hw7,hNl,er,lr7,ee7,hz7]))|simp (disch:=omega) only[Ae]|((with_reducible refine Bf ?_);refine⟨(_,_,_,_),rfl,?_,?_⟩)|((with_reducible refine Ao ?_);refine⟨(_,_,_),rfl,?_,?_⟩)|((with_reducible refine Ap ?_);refine⟨(_,_),rfl,?_,?_⟩)|((with_reducible refine Ad ?_);refine⟨_,rfl,?_,?_⟩)
                all_goals first|omega|(simp<;>omega)|skip
                all_goals first
                  |(
                     rename_i q q1 q2
                     rcases Nat.lt_succ_iff_lt_or_eq.1 q2 with q2|rfl
                     · exact u3 q q1 q2
                     · exact hz7)
                  |skip
              · have hso:HN L i at_ s=none:=k2.endsN hm u1 h7 (by rw[hN];exact hz7)
                rw[hso]
                (try (simp -implicitDefEqProofs only[go_sem,h7',hw7,hNl,er,lr7,ee7,hz7,Pe]));repeat' first|(with_reducible first|exact tI|refine aI ?_ ?_|intro _)|((first|with_reducible refine AK ?_ ?_<;>intro _)<;>try (simp -implicitDefEqProofs only[go_sem,h7',hw7,hNl,er,lr7,ee7,hz7,Pe]))|simp (disch:=omega) only[Ae]|((with_reducible refine Bf ?_);refine⟨(_,_,_,_),rfl,?_,?_⟩)|((with_reducible refine Ao ?_);refine⟨(_,_,_),rfl,?_,?_⟩)|((with_reducible refine Ap ?_);refine⟨(_,_),rfl,?_,?_⟩)|((with_reducible refine Ad ?_);refine⟨_,rfl,?_,?_⟩)
                all_goals first|omega|(simp<;>omega)|skip
                all_goals first|rfl|skip
            · have h7':¬(t:Int)<(i:Int):=by omega
              obtain⟨v0,hv0⟩:∃v,(List.range at_.length).map (fun q=>ov (CV N q at_.length) (CV N q q))=v:=⟨_,rfl⟩
              have hvl:v0.length=at_.length:=by rw[←hv0];simp
              have hva:∀q,q<at_.length->EY v0 q=ov (CV N q at_.length) (CV N q q):=fun q hq=>by
                unfold EY
                rw[←hv0,List.getElem?_map,List.getElem?_range hq]
                simp only[Option.map_some,Option.getD_some]
              have hso:HN L i at_ s=some v0:=k2.ends hL hp hm v0 hvl (fun q hq=>by rw[hN,hva q hq];exact iQ _ _ (hD q hq)) (fun q q1 q2=>by
                rw[hN];exact u3 q q1 (by omega))
              rw[hso]
              (try (simp -implicitDefEqProofs only[go_sem,h7',hNl]));repeat' first|(with_reducible first|exact tI|refine aI ?_ ?_|intro _)|((first|with_reducible refine AK ?_ ?_<;>intro _)<;>try (simp -implicitDefEqProofs only[go_sem,h7',hNl]))|simp (disch:=omega) only[Ae]|((with_reducible refine Bf ?_);refine⟨(_,_,_,_),rfl,?_,?_⟩)|((with_reducible refine Ao ?_);refine⟨(_,_,_),rfl,?_,?_⟩)|((with_reducible refine Ap ?_);refine⟨(_,_),rfl,?_,?_⟩)|((with_reducible refine Ad ?_);refine⟨_,rfl,?_,?_⟩)
              all_goals first|omega|(simp<;>omega)|skip
              refine AX (α:=Nat×Bool×(List F)) (l0:=?l11) (m0:=?m11) (fun x=>[(22,.d (.int .i64 (x.1:Int)))]) (fun x=>[(225,.row 3 1 x.2.1 (Ab (iv x.2.2)))]) (fun x=>x.1<=at_.length/\x.2.2=v0.take x.1/\x.2.1=x.2.2.isEmpty) (fun x=>at_.length-x.1) (0,true,[]) ?h011 ?he11 ?he211 ?hI11 ?step11
              case h011=>(simp -implicitDefEqProofs only[go_sem];rfl)
              case he11=>rfl
              case he211=>rfl
              case' step11=>(rintro⟨j,b,v⟩ hI11;try dsimp only at hI11)
              case' hI11=>try dsimp only
              · exact⟨by omega,rfl,rfl⟩
              · obtain⟨y1,y2,y3⟩:=hI11
                have hvj:v.length=j:=by rw[y2];simp;omega
                by_cases h8:j<at_.length
                · have h8':(j:Int)<(at_.length:Int):=by omega
                  have hw8:IntKind.i64.wrap ((j:Int)+1)=((j+1:Nat):Int):=by rw[AZ _ (by omega)];omega
                  have er:N[j]?.getD default=A4 N j:=rfl
                  have lr8:=hS.row j (by omega)
                  have ee8:(A4 N j)[at_.length]?.getD 0=CV N j at_.length:=rfl
                  have ee9:(A4 N j)[j]?.getD 0=CV N j j:=rfl
                  have c8:=Hf (CV N j at_.length) (CV N j j)
                  have hnx:v++[ov (CV N j at_.length) (CV N j j)]=v0.take (j+1):=by
                    rw[←hva j h8,y2];exact Bb v0 0 j (by omega)
                  (try (simp -implicitDefEqProofs only[go_sem,h8',hw8,hNl,er,lr8,ee8,ee9]));repeat' first|(with_reducible first|exact tI|refine aI ?_ ?_|intro _)|((first|with_reducible refine AK ?_ ?_<;>intro _|(with_reducible refine isCall ?_);first|refine AE c8 ?_)<;>try (simp -implicitDefEqProofs only[go_sem,h8',hw8,hNl,er,lr8,ee8,ee9]))|simp (disch:=omega) only[Ae]|((with_reducible refine Bf ?_);refine⟨(_,_,_,_),rfl,?_,?_⟩)|((with_reducible refine Ao ?_);refine⟨(_,_,_),rfl,?_,?_⟩)|((with_reducible refine Ap ?_);refine⟨(_,_),rfl,?_,?_⟩)|((with_reducible refine Ad ?_);refine⟨_,rfl,?_,?_⟩)
                  all_goals first|omega|(simp<;>omega)|skip
                  all_goals first|exact hnx|(exact(Le _ _).symm)|(simp at *;done)|(simp at *;omega)|skip
                · have h8':¬(j:Int)<(at_.length:Int):=by omega
                  have hje:j=v0.length:=by omega
                  have hvv:v=v0:=by rw[y2,hje,List.take_length]
                  subst hvv
                  subst y3
                  (try (simp -implicitDefEqProofs only[go_sem,h8',ML]));repeat' first|(with_reducible first|exact tI|refine aI ?_ ?_|intro _)|((first|with_reducible refine AK ?_ ?_<;>intro _)<;>try (simp -implicitDefEqProofs only[go_sem,h8',ML]))|simp (disch:=omega) only[Ae]|((with_reducible refine Bf ?_);refine⟨(_,_,_,_),rfl,?_,?_⟩)|((with_reducible refine Ao ?_);refine⟨(_,_,_),rfl,?_,?_⟩)|((with_reducible refine Ap ?_);refine⟨(_,_),rfl,?_,?_⟩)|((with_reducible refine Ad ?_);refine⟨_,rfl,?_,?_⟩)
                  all_goals first|omega|(simp<;>omega)|skip
                  all_goals first|rfl|skip
end Go.Pw

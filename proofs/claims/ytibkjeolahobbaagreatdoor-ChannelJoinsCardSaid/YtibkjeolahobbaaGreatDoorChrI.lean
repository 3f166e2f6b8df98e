/- A part of the proof. -/
import Derived.Test.YtibkjeolahobbaaGreatDoorPgChrG
set_option linter.all false
open Go Go.Pw Go.Proofs
namespace Go.Pw
set_option maxRecDepth 100000
set_option maxHeartbeats 6400000
def oZ (o:Option (List F)):D:=match o with
 |some v=>.tup [.list v.isEmpty (Aa (iv v)),.bool true]
 |none=>.tup [.list true [],.bool false]
theorem OU (v:List F):oZ (some v)=.tup [.list v.isEmpty (Aa (iv v)),.bool true]:=rfl
theorem OV:oZ none=.tup [.list true [],.bool false]:=rfl
def QV (L i:Nat):List F:=(List.range L).map fun j=>VC L i j
def Fg (L P:Nat) (w:List F):List F:=(List.range P).map fun i=>Eb w (QV L i)
theorem Qo (L P:Nat) (w:List F):(Fg L P w).length=P:=by simp[Fg]
theorem H_ (L P:Nat) (w:List F) (i:Nat) (h:i<P):(Fg L P w)[i]?.getD 0=Eb w (QV L i):=by simp[Fg,h]
theorem La (L i:Nat):(QV L i).length=L:=by simp[QV]
theorem QU (L i j:Nat) (h:j<L):(QV L i)[j]?.getD 0=VC L i j:=by simp[QV,h]
theorem Wq (w c:List F) (j:Nat) (hw:j<w.length) (hc:j<c.length):fa (Eb (w.take j) (c.take j)) (fm (w[j]?.getD 0) (c[j]?.getD 0))=Eb (w.take (j+1)) (c.take (j+1)):=by
 rw[←Az w 0 j hw,←Az c 0 j hc,Rj]
 simp;omega
theorem Zg:∀b:F,ov 0 b=0:=by decide +kernel
theorem gh:∀p a:F,p≠0->fm p (ov a p)=a:=by decide +kernel
theorem Tf (r o:List F) (h:r.length=o.length):C7 r o 0=r:=by
 apply Wb (HA r o 0 h)
 intro j _
 rw[K0 _ _ _ _ h,C0,CM]
theorem nO (i n:Nat) (hi:i<=100) (hn:n<=100):IntKind.i64.wrap ((i:Int)*(n:Int))=((i*n:Nat):Int):=by
 have:i*n<=100*100:=Nat.mul_le_mul hi hn
 rw[←Int.natCast_mul,AZ _ (by omega)]
attribute [local irreducible] IntKind.wrap Ai Option.getD and or
theorem Pr (L P:Nat) (n1 n2:Bool) (w:List F) (at_:List Nat) (hL:L<=15) (hL1:1<=L) (hP:1<=P) (hP2:P<=15) (hw:w.length=L) (hp:ZG L at_) (hm:at_.length<=P) :
    BR E0 MH [QC L P,.list n1 (Aa (iv w)),.list n2 (Aa (ni at_))] (oZ (Gl L P at_ (Fg L P w))):=by
  obtain⟨s,hse⟩:∃s,Fg L P w=s:=⟨_,rfl⟩
  have hs:s.length=P:=by rw[←hse];exact Qo L P w
  rw[hse]
  have el:(J' L P at_ s).length=P:=(LX L P at_ s).len
  have hwL:IntKind.i64.wrap ((L:Int)-1)=((L-1:Nat):Int):=by rw[AZ _ (by omega)];omega
  refine AM P2 Af (by simp) fun hwf=>?_
  rw[AQ];unfold KO
  (try (simp -implicitDefEqProofs only[go_sem,A4]));repeat' first|(with_reducible first|exact tI|refine aI ?_ ?_|intro _|refine AJ ?_ ?_<;>intro _<;>try simp -implicitDefEqProofs only[go_sem,A4])|simp (disch:=omega) only[Ad]|((with_reducible first|apply A8|apply Ag|apply Ae|apply Ab);exact rfl)
  refine AU (α:=Nat×Bool×(List Nat)×(List (List F))) (l0:=?l1) (m0:=?m1) (fun x=>[(9,.d (.int .i64 (x.1:Int)))]) (fun x=>[(78,.mat 29 3 x.2.1 x.2.2.1 (D4 x.2.2.2))]) (fun x=>x.1<=P/\x.2.2.2=(J' L P at_ s).take x.1/\x.2.2.1=List.range x.1/\x.2.1=decide (x.1=0)) (fun x=>P-x.1) (0,true,[],[]) ?h01 ?he1 ?he21 ?hI1 ?step1
  case h01=>(simp -implicitDefEqProofs only[go_sem];rfl)
  case he1=>rfl
  case he21=>rfl
  case' step1=>(rintro⟨i,nl,ix,R⟩ hI;try dsimp only at hI)
  case' hI1=>try dsimp only
  · exact⟨by omega,by simp,rfl,rfl⟩
  · obtain⟨h1,h2,h3,h4⟩:=hI
    have hR:R.length=i:=by rw[h2];simp;omega
    by_cases h:i<P
    · have h':(i:Int)<(P:Int):=by omega
      have hwi:IntKind.i64.wrap ((i:Int)+1)=((i+1:Nat):Int):=by rw[AZ _ (by omega)];omega
      (try (simp -implicitDefEqProofs only[go_sem,h',A4]));repeat' first|(with_reducible first|exact tI|refine aI ?_ ?_|intro _|refine AJ ?_ ?_<;>intro _<;>try simp -implicitDefEqProofs only[go_sem,h',A4])|simp (disch:=omega) only[Ad]|((with_reducible refine Ca ?_);refine⟨(_,_,_,_),rfl,?_,?_⟩)|((with_reducible refine Ca ?_);refine⟨(_,_,_),rfl,?_,?_⟩)|((with_reducible refine Ca ?_);refine⟨(_,_),rfl,?_,?_⟩)|((with_reducible refine Ca ?_);refine⟨_,rfl,?_,?_⟩)
      all_goals first|omega|(simp<;>omega)|skip
      refine AU (α:=Nat×Bool×(List F)) (l0:=?l2) (m0:=?m2) (fun x=>[(11,.d (.int .i64 (x.1:Int)))]) (fun x=>[(49,.row 3 1 x.2.1 (Aa (iv x.2.2)))]) (fun x=>x.1<=at_.length/\x.2.2=(at_.take x.1).map (fun q=>VC L i q)/\x.2.1=x.2.2.isEmpty) (fun x=>at_.length-x.1) (0,true,[]) ?h02 ?he2 ?he22 ?hI2 ?step2
      case h02=>(simp -implicitDefEqProofs only[go_sem];rfl)
      case he2=>rfl
      case he22=>rfl
      case' step2=>(rintro⟨j,b,r⟩ hI2;try dsimp only at hI2)
      case' hI2=>try dsimp only
      · exact⟨by omega,rfl,rfl⟩
      · obtain⟨q1,q2,q3⟩:=hI2
        have hrl:r.length=j:=by rw[q2];simp;omega
        by_cases hj:j<at_.length
        · have hj':(j:Int)<(at_.length:Int):=by omega
          have hwj:IntKind.i64.wrap ((j:Int)+1)=((j+1:Nat):Int):=by rw[AZ _ (by omega)];omega
          have hlt:=hp.lt (at_[j]?.getD 0) (by rw[RV _ _ hj];exact List.getElem_mem hj)
          have hwq:IntKind.i64.wrap (((L-1:Nat):Int)-((at_[j]?.getD 0:Nat):Int))=((L-1-at_[j]?.getD 0:Nat):Int):=by rw[AZ _ (by omega)];omega
          have hwm:=nO i (L-1-at_[j]?.getD 0) (by omega) (by omega)
          have c1:=JW (i*(L-1-at_[j]?.getD 0)%15) (by omega)
          rw[Md] at c1
          have hk:r++[VC L i (at_[j]?.getD 0)]=(at_.take (j+1)).map (fun q=>VC L i q):=by
            rw[q2,←Az at_ 0 j hj];simp
          (try (simp -implicitDefEqProofs only[go_sem,hj',hwj,hwL,hwq,hwm,OQ]));repeat' first|(with_reducible first|exact tI|refine aI ?_ ?_|intro _)|((first|with_reducible refine AJ ?_ ?_<;>intro _|(with_reducible refine isCall ?_);first|refine AE c1 ?_)<;>try (simp -implicitDefEqProofs only[go_sem,hj',hwj,hwL,hwq,hwm,OQ]))|simp (disch:=omega) only[Ad]|((with_reducible first|apply A8|apply Ag|apply Ae|apply Ab);exact rfl)
          all_goals first|omega|(simp<;>omega)|skip
          all_goals first|exact hk|(exact(Kl _ _).symm)|(simp at *;done)|(simp at *;omega)|skip
        · have hj':¬(j:Int)<(at_.length:Int):=by omega
          have hjj:j=at_.length:=by omega
          have hil:ix.length=i:=by rw[h3];simp
          (try (simp -implicitDefEqProofs only[go_sem,hj',hwi]));repeat' first|(with_reducible first|exact tI|refine aI ?_ ?_|intro _|refine AJ ?_ ?_<;>intro _<;>try simp -implicitDefEqProofs only[go_sem,hj',hwi])|simp (disch:=omega) only[Ad]|((with_reducible first|apply A8|apply Ag|apply Ae|apply Ab);exact rfl)
          all_goals first|omega|(simp<;>omega)|skip
          refine AU (α:=Nat×F) (l0:=?l3) (m0:=?m3) (fun x=>[(13,.d (.int .i64 (x.1:Int))),(12,.d (.int .i64 (x.2.val:Int)))]) (fun x=>[]) (fun x=>x.1<=L/\x.2=Eb (w.take x.1) ((QV L i).take x.1)) (fun x=>L-x.1) (0,0) ?h03 ?he3 ?he23 ?hI3 ?step3
          case h03=>(simp -implicitDefEqProofs only[go_sem];rfl)
          case he3=>rfl
          case he23=>rfl
          case' step3=>(rintro⟨t,acc⟩ hI3;try dsimp only at hI3)
          case' hI3=>try dsimp only
          · exact⟨by omega,rfl⟩
          · obtain⟨t1,t2⟩:=hI3
            by_cases ht:t<L
            · have ht':(t:Int)<(L:Int):=by omega
              have hwt:IntKind.i64.wrap ((t:Int)+1)=((t+1:Nat):Int):=by rw[AZ _ (by omega)];omega
              have hwq:IntKind.i64.wrap (((L-1:Nat):Int)-(t:Int))=((L-1-t:Nat):Int):=by rw[AZ _ (by omega)];omega
              have hwm:=nO i (L-1-t) (by omega) (by omega)
              have c1:=JW (i*(L-1-t)%15) (by omega)
              rw[Md] at c1
              have c2:=EW (w[t]?.getD 0) (gp (i*(L-1-t)))
              have hk:fa acc (fm (w[t]?.getD 0) (gp (i*(L-1-t))))=Eb (w.take (t+1)) ((QV L i).take (t+1)):=by
                rw[t2,←Wq w (QV L i) t (by omega) (by rw[La];omega),QU L i t ht];rfl
              (try (simp -implicitDefEqProofs only[go_sem,ht',hwt,hwL,hwq,hwm,OQ,hw]));repeat' first|(with_reducible first|exact tI|refine aI ?_ ?_|intro _)|((first|with_reducible refine AJ ?_ ?_<;>intro _|(with_reducible refine isCall ?_);first|refine AE c1 ?_|refine AE c2 ?_)<;>try (simp -implicitDefEqProofs only[go_sem,ht',hwt,hwL,hwq,hwm,OQ,hw]))|simp (disch:=omega) only[Ad]|((with_reducible first|apply A8|apply Ag|apply Ae|apply Ab);exact rfl)
              all_goals first|omega|(simp<;>omega)|skip
              all_goals first|exact hk|(simp at *;done)|(simp at *;omega)|skip
            · have ht':¬(t:Int)<(L:Int):=by omega
              have hte:t=L:=by omega
              have hacc:acc=s[i]?.getD 0:=by
                rw[t2,hte,←hse,H_ L P w i h,List.take_of_length_le (by omega),List.take_of_length_le (by rw[La];omega)]
              have hrow:r++[acc]=Ak (J' L P at_ s) i:=by
                rw[RA _ _ _ _ _ h,q2,hjj,List.take_length,hacc];rfl
              have hnx:R++[Ak (J' L P at_ s) i]=(J' L P at_ s).take (i+1):=by
                rw[h2];exact Az _ _ _ (by omega)
              have hix:ix++[R.length]=List.range (i+1):=by rw[h3,hR,List.range_succ]
              (try (simp -implicitDefEqProofs only[go_sem,ht',hwi,hrow,hnx,hix]));repeat' first|(with_reducible first|exact tI|refine aI ?_ ?_|intro _|refine AJ ?_ ?_<;>intro _<;>try simp -implicitDefEqProofs only[go_sem,ht',hwi,hrow,hnx,hix])|simp (disch:=omega) only[Ad]|((with_reducible first|apply A8|apply Ag|apply Ae|apply Ab);exact rfl)
              all_goals first|omega|(simp<;>omega)|skip
              all_goals first|rfl|exact hix|(rw[h3];exact List.range_succ.symm)|exact List.range_succ.symm|(simp at *;done)|(simp at *;omega)|skip
    · have h':¬(i:Int)<(P:Int):=by omega
      have hi:i=P:=by omega
      subst hi
      have e2:R=J' L i at_ s:=by rw[h2,List.take_of_length_le (by omega)]
      have e4:nl=false:=by rw[h4];simp;omega
      subst e4
      clear h4
      subst e2 h3
      (try (simp -implicitDefEqProofs only[go_sem,h',A4]));repeat' first|(with_reducible first|exact tI|refine aI ?_ ?_|intro _|refine AJ ?_ ?_<;>intro _<;>try simp -implicitDefEqProofs only[go_sem,h',A4])|simp (disch:=omega) only[Ad]|((with_reducible first|apply A8|apply Ag|apply Ae|apply Ab);exact rfl)
      all_goals first|omega|(simp<;>omega)|skip
      refine AU (α:=Nat×(List Nat)×(List (List F))) (l0:=?l4) (m0:=?m4) (fun x=>[(14,.d (.int .i64 (x.1:Int)))]) (fun x=>[(78,.mat 29 3 false x.2.1 (D4 x.2.2))]) (fun x=>x.1<=at_.length/\Tg L i at_ s x.2.1 x.2.2 x.1) (fun x=>at_.length-x.1) (0,(List.range i),(J' L i at_ s)) ?h04 ?he4 ?he24 ?hI4 ?step4
      case h04=>(simp -implicitDefEqProofs only[go_sem];rfl)
      case he4=>rfl
      case he24=>rfl
      case' step4=>(rintro⟨k,ix,R⟩ hI4;try dsimp only at hI4)
      case' hI4=>try dsimp only
      · exact⟨by omega,Tg.start⟩
      · obtain⟨k1,k2⟩:=hI4
        have li:=k2.pq.li
        have lr:=k2.pq.lr
        by_cases hk:k<at_.length
        · have hk':(k:Int)<(at_.length:Int):=by omega
          have hwk:IntKind.i64.wrap ((k:Int)+1)=((k+1:Nat):Int):=by rw[AZ _ (by omega)];omega
          (try (simp -implicitDefEqProofs only[go_sem,hk']));repeat' first|(with_reducible first|exact tI|refine aI ?_ ?_|intro _|refine AJ ?_ ?_<;>intro _<;>try simp -implicitDefEqProofs only[go_sem,hk'])|simp (disch:=omega) only[Ad]|((with_reducible first|apply A8|apply Ag|apply Ae|apply Ab);exact rfl)
          all_goals first|omega|(simp<;>omega)|skip
          refine AU (α:=Nat×Int) (l0:=?l5) (m0:=?m5) (fun x=>[(16,.d (.int .i64 (x.1:Int))),(15,.d (.int .i64 x.2))]) (fun x=>[]) (fun x=>k<=x.1/\x.1<=i/\((x.2=-1/\∀q,k<=q->q<x.1->Bk (lm ix R) q k=0)\/∃fp:Nat,x.2=(fp:Int)/\k<=fp/\fp<i/\Bk (lm ix R) fp k≠0)) (fun x=>i-x.1) (k,-1) ?h05 ?he5 ?he25 ?hI5 ?step5
          case h05=>(simp -implicitDefEqProofs only[go_sem];rfl)
          case he5=>rfl
          case he25=>rfl
          case' step5=>(rintro⟨f,p⟩ hI5;try dsimp only at hI5)
          case' hI5=>try dsimp only
          · exact⟨by omega,by omega,.inl ⟨rfl,fun q _ _=>by omega⟩⟩
          · obtain⟨f1,f2,f3⟩:=hI5
            by_cases hgo:f<i/\p<0
            · obtain⟨hf,hp0⟩:=hgo
              have f3':∀q,k<=q->q<f->Bk (lm ix R) q k=0:=by
                rcases f3 with⟨_,f3⟩|⟨fp,f3,_⟩
                · exact f3
                · omega
              have hpm:p=-1:=by
                rcases f3 with⟨f3,_⟩|⟨fp,f3,_⟩
                · exact f3
                · omega
              clear f3
              have hf':(f:Int)<(ix.length:Int):=by omega
              have hwf1:IntKind.i64.wrap ((f:Int)+1)=((f+1:Nat):Int):=by rw[AZ _ (by omega)];omega
              have a1:ix[f]?.getD 0<R.length:=by rw[lr];exact k2.pq.ix_lt hf
              have rl:(R[ix[f]?.getD 0]?.getD []).length=at_.length+1:=k2.rlen hf
              have ee:(R[ix[f]?.getD 0]?.getD [])[k]?.getD 0=Bk (lm ix R) f k:=by
                show _=Di (Ak (lm ix R) f) k
                rw[DK k2.pq hf];rfl
              by_cases hz:Bk (lm ix R) f k=0
              · have hnx:(p=-1/\∀q,k<=q->q<f+1->Bk (lm ix R) q k=0)\/∃fp:Nat,p=(fp:Int)/\k<=fp/\fp<i/\Bk (lm ix R) fp k≠0:=.inl ⟨hpm,fun q q1 q2=>by
                  rcases Nat.lt_succ_iff_lt_or_eq.1 q2 with q2|rfl
                  · exact f3' q q1 q2
                  · exact hz⟩
                (try (simp -implicitDefEqProofs only[go_sem,hf',hp0,hwf1,ee,hz,a1,rl]));repeat' first|(with_reducible first|exact tI|refine aI ?_ ?_|intro _|refine AJ ?_ ?_<;>intro _<;>try simp -implicitDefEqProofs only[go_sem,hf',hp0,hwf1,ee,hz,a1,rl])|simp (disch:=omega) only[Ad]|((with_reducible first|apply A8|apply Ag|apply Ae|apply Ab);exact rfl)
                all_goals first|omega|(simp<;>omega)|skip
                all_goals first|exact hnx|skip
              · have hnx:((f:Int)=-1/\∀q,k<=q->q<f+1->Bk (lm ix R) q k=0)\/∃fp:Nat,(f:Int)=(fp:Int)/\k<=fp/\fp<i/\Bk (lm ix R) fp k≠0:=.inr ⟨f,rfl,f1,hf,hz⟩
                (try (simp -implicitDefEqProofs only[go_sem,hf',hp0,hwf1,ee,hz,a1,rl]));repeat' first|(with_reducible first|exact tI|refine aI ?_ ?_|intro _|refine AJ ?_ ?_<;>intro _<;>try simp -implicitDefEqProofs only[go_sem,hf',hp0,hwf1,ee,hz,a1,rl])|simp (disch:=omega) only[Ad]|((with_reducible first|apply A8|apply Ag|apply Ae|apply Ab);exact rfl)
                all_goals first|omega|(simp<;>omega)|skip
                all_goals first|exact hnx|skip
            · have hgo':((f:Int)<(ix.length:Int))->¬p<0:=fun h1 h2=>hgo ⟨by omega,h2⟩
              rcases f3 with⟨hpm,f3⟩|⟨fp,hpe,f4,f5,hnz⟩
              · have hfe:f=i:=by omega
                exact(k2.fail hL hp hm hk fun q q1 q2=>f3 q q1 (by omega)).elim
              · subst hpe
                have hp0:¬(fp:Int)<0:=by omega
                obtain⟨p1,p2,p3⟩:=Zv k2.pq (show k<i by omega) f5
                obtain⟨I,hIe⟩:∃I,(ix.set k (ix[fp]?.getD 0)).set fp (ix[k]?.getD 0)=I:=⟨_,rfl⟩
                rw[show FQ ix fp=ix[fp]?.getD 0 from rfl,show FQ ix k=ix[k]?.getD 0 from rfl,hIe] at p1 p2 p3
                have hIl:=p1.li
                have a0:ix[k]?.getD 0<R.length:=by rw[lr];exact k2.pq.ix_lt (show k<i by omega)
                have a1:ix[fp]?.getD 0<R.length:=by rw[lr];exact k2.pq.ix_lt f5
                have hif:k<ix.length:=by omega
                have hif2:fp<ix.length:=by omega
                have hkI:k<I.length:=by omega
                obtain⟨M2,hMe⟩:∃M2,lm I R=M2:=⟨_,rfl⟩
                have hl2:M2.length=i:=by rw[←hMe,GH];exact hIl
                have hS2:QZ M2 i (at_.length+1):=by rw[←hMe,p2];exact k2.shp.swp (show k<i by omega) f5
                have hpv:Bk M2 k k=Bk (lm ix R) fp k:=by rw[←hMe,p2];exact Uk k2.shp (show k<i by omega) f5 k
                have hpnz:Bk M2 k k≠0:=by rw[hpv];exact hnz
                (try (simp -implicitDefEqProofs only[go_sem,hgo',hp0,hIe,a0,a1,hif,hif2,hkI,List.length_set]));repeat' first|(with_reducible first|exact tI|refine aI ?_ ?_|intro _|refine AJ ?_ ?_<;>intro _<;>try simp -implicitDefEqProofs only[go_sem,hgo',hp0,hIe,a0,a1,hif,hif2,hkI,List.length_set])|simp (disch:=omega) only[Ad]|((with_reducible first|apply A8|apply Ag|apply Ae|apply Ab);exact rfl)
                all_goals first|omega|(simp<;>omega)|skip
                · refine AU (α:=Nat×(List (List F))) (l0:=?l6) (m0:=?m6) (fun x=>[(17,.d (.int .i64 (x.1:Int)))]) (fun x=>[(78,.mat 29 3 false I (D4 x.2))]) (fun x=>x.1<=i/\PQ i I x.2/\lm I x.2=(A5 ov M2 k).take x.1++M2.drop x.1) (fun x=>i-x.1) (0,R) ?h06 ?he6 ?he26 ?hI6 ?step6
                  case h06=>(simp -implicitDefEqProofs only[go_sem];rfl)
                  case he6=>rfl
                  case he26=>rfl
                  case' step6=>(rintro⟨i6,Q⟩ hI6;try dsimp only at hI6)
                  case' hI6=>try dsimp only
                  · exact⟨by omega,p1,by rw[hMe];simp⟩
                  · obtain⟨t1,t2,t3⟩:=hI6
                    by_cases h6:i6<i
                    · have h6':(i6:Int)<(I.length:Int):=by omega
                      have hw6:IntKind.i64.wrap ((i6:Int)+1)=((i6+1:Nat):Int):=by rw[AZ _ (by omega)];omega
                      by_cases hik:i6=k
                      · subst hik
                        have hnx:lm I Q=(A5 ov M2 i6).take (i6+1)++M2.drop (i6+1):=by rw[t3];exact RH (by omega)
                        (try (simp -implicitDefEqProofs only[go_sem,h6',hw6]));repeat' first|(with_reducible first|exact tI|refine aI ?_ ?_|intro _|refine AJ ?_ ?_<;>intro _<;>try simp -implicitDefEqProofs only[go_sem,h6',hw6])|simp (disch:=omega) only[Ad]|((with_reducible first|apply A8|apply Ag|apply Ae|apply Ab);exact rfl)
                        all_goals first|omega|(simp<;>omega)|skip
                        all_goals first|exact hnx|exact t2|skip
                      · have hik':¬(i6:Int)=(k:Int):=by omega
                        have b1:I[i6]?.getD 0<Q.length:=by rw[t2.lr];exact t2.ix_lt h6
                        have b2:I[k]?.getD 0<Q.length:=by rw[t2.lr];exact t2.ix_lt (show k<i by omega)
                        have e6:Q[I[i6]?.getD 0]?.getD []=Ak M2 i6:=by
                          have:=DK t2 h6
                          rw[t3,UA (by omega)] at this
                          exact this.symm
                        have ek:Q[I[k]?.getD 0]?.getD []=Ak M2 k:=by
                          have:=DK t2 (show k<i by omega)
                          rw[t3,RI (by omega) (by omega)] at this
                          exact this.symm
                        have l6:=hS2.row i6 h6
                        have lk:=hS2.row k (by omega)
                        have hne:I[i6]?.getD 0≠I[k]?.getD 0:=fun e=>hik (t2.ix_inj h6 (show k<i by omega) e)
                        have ek2:(Ak M2 i6)[k]?.getD 0=Bk M2 i6 k:=rfl
                        have ek3:(Ak M2 k)[k]?.getD 0=Bk M2 k k:=rfl
                        have hI6l:i6<I.length:=by omega
                        have hk6:k<at_.length+1:=by omega
                        obtain⟨by_,hby⟩:∃y,ov (Bk M2 i6 k) (Bk M2 k k)=y:=⟨_,rfl⟩
                        have hnx:lm I (Q.set (I[i6]?.getD 0) (C7 (Ak M2 i6) (Ak M2 k) by_))=(A5 ov M2 k).take (i6+1)++M2.drop (i6+1):=by
                          have:=UO t2 h6 (C7 (Ak M2 i6) (Ak M2 k) by_)
                          rw[show FQ I i6=I[i6]?.getD 0 from rfl] at this
                          rw[this,t3,←hby]
                          exact RJ (by omega) hik
                        by_cases hz6:Bk M2 i6 k=0
                        · have hQ:Q.set (I[i6]?.getD 0) (C7 (Ak M2 i6) (Ak M2 k) by_)=Q:=by
                            rw[←hby,hz6,Zg,Tf _ _ (by rw[l6,lk]),←e6];exact OX b1
                          rw[hQ] at hnx
                          (try (simp -implicitDefEqProofs only[go_sem,h6',hw6,hik',b1,e6,ek2,l6,hI6l,hz6]));repeat' first|(with_reducible first|exact tI|refine aI ?_ ?_|intro _|refine AJ ?_ ?_<;>intro _<;>try simp -implicitDefEqProofs only[go_sem,h6',hw6,hik',b1,e6,ek2,l6,hI6l,hz6])|simp (disch:=omega) only[Ad]|((with_reducible first|apply A8|apply Ag|apply Ae|apply Ab);exact rfl)
                          all_goals first|omega|(simp<;>omega)|skip
                          all_goals first|exact hnx|exact t2|skip
                        · have c6:=Gp (Bk M2 i6 k) (Bk M2 k k)
                          rw[hby] at c6
                          have hRR:Q.set (I[i6]?.getD 0) (Ak M2 i6)=Q:=by rw[←e6];exact OX b1
                          have hUR:D4 Q=D4 (Q.set (I[i6]?.getD 0) (Ak M2 i6)):=by rw[hRR]
                          have hA:=HA (Ak M2 i6) (Ak M2 k) by_ (by rw[l6,lk])
                          (try (simp -implicitDefEqProofs only[go_sem,h6',hw6,hik',b1,b2,e6,ek,ek2,ek3,l6,lk,hI6l,hkI,hz6,hk6]));repeat' first|(with_reducible first|exact tI|refine aI ?_ ?_|intro _)|((first|with_reducible refine AJ ?_ ?_<;>intro _|(with_reducible refine isCall ?_);first|refine AE c6 ?_)<;>try (simp -implicitDefEqProofs only[go_sem,h6',hw6,hik',b1,b2,e6,ek,ek2,ek3,l6,lk,hI6l,hkI,hz6,hk6]))|simp (disch:=omega) only[Ad]|((with_reducible first|apply A8|apply Ag|apply Ae|apply Ab);exact rfl)
                          all_goals first|omega|(simp<;>omega)|skip
                          rw[hUR]
                          refine AU (α:=Nat×(List F)) (l0:=?l7) (m0:=?m7) (fun x=>[(19,.d (.int .i64 (x.1:Int)))]) (fun x=>[(78,.mat 29 3 false I (D4 (Q.set (I[i6]?.getD 0) x.2)))]) (fun x=>x.1<=at_.length+1/\x.2=(C7 (Ak M2 i6) (Ak M2 k) by_).take x.1++(Ak M2 i6).drop x.1) (fun x=>at_.length+1-x.1) (0,(Ak M2 i6)) ?h07 ?he7 ?he27 ?hI7 ?step7
                          case h07=>(simp -implicitDefEqProofs only[go_sem];rfl)
                          case he7=>rfl
                          case he27=>rfl
                          case' step7=>(rintro⟨m,r⟩ hI7;try dsimp only at hI7)
                          case' hI7=>try dsimp only
                          · exact⟨by omega,by simp⟩
                          · obtain⟨u1,u2⟩:=hI7
                            have hr:r.length=at_.length+1:=by rw[u2,M9 hA m (by rw[hA];omega),hA,l6]
                            have hBk:(Q.set (I[i6]?.getD 0) r)[I[k]?.getD 0]?.getD []=Ak M2 k:=by rw[eJ hne];exact ek
                            by_cases h7:m<at_.length+1
                            · have h7':(m:Int)<=(at_.length:Int):=by omega
                              have hw7:IntKind.i64.wrap ((m:Int)+1)=((m+1:Nat):Int):=by rw[AZ _ (by omega)];omega
                              have c7:=EW by_ ((Ak M2 k)[m]?.getD 0)
                              have g1:r[m]?.getD 0=(Ak M2 i6)[m]?.getD 0:=by rw[u2];exact M_ hA m (by rw[hA];omega)
                              have g2:r.set m (fa ((Ak M2 i6)[m]?.getD 0) (fm by_ ((Ak M2 k)[m]?.getD 0)))=(C7 (Ak M2 i6) (Ak M2 k) by_).take (m+1)++(Ak M2 i6).drop (m+1):=by
                                rw[u2,Ck,←SM (Ak M2 i6) (Ak M2 k) by_ m (by rw[l6,lk])];exact M8 hA m (by rw[hA];omega)
                              (try (simp -implicitDefEqProofs only[go_sem,h7',hw7,g1,Vo b1,hBk,Vn,hI6l,hkI,b1,b2,lk,List.length_set]));repeat' first|(with_reducible first|exact tI|refine aI ?_ ?_|intro _)|((first|with_reducible refine AJ ?_ ?_<;>intro _|(with_reducible refine isCall ?_);first|refine AE c7 ?_)<;>try (simp -implicitDefEqProofs only[go_sem,h7',hw7,g1,Vo b1,hBk,Vn,hI6l,hkI,b1,b2,lk,List.length_set]))|simp (disch:=omega) only[Ad]|((with_reducible first|apply A8|apply Ag|apply Ae|apply Ab);exact rfl)
                              all_goals first|omega|(simp<;>omega)|skip
                              all_goals first|exact g2|skip
                            · have h7':¬(m:Int)<=(at_.length:Int):=by omega
                              have hre:r=C7 (Ak M2 i6) (Ak M2 k) by_:=by
                                have hml:m=(C7 (Ak M2 i6) (Ak M2 k) by_).length:=by rw[hA,l6];omega
                                rw[u2,hml];exact NA hA
                              subst hre
                              have hpq:=t2.set (I[i6]?.getD 0) (C7 (Ak M2 i6) (Ak M2 k) by_)
                              (try (simp -implicitDefEqProofs only[go_sem,h7',hw6]));repeat' first|(with_reducible first|exact tI|refine aI ?_ ?_|intro _|refine AJ ?_ ?_<;>intro _<;>try simp -implicitDefEqProofs only[go_sem,h7',hw6])|simp (disch:=omega) only[Ad]|((with_reducible first|apply A8|apply Ag|apply Ae|apply Ab);exact rfl)
                              all_goals first|omega|(simp<;>omega)|skip
                              all_goals first|exact hnx|exact hpq|skip
                    · have h6':¬(i6:Int)<(I.length:Int):=by omega
                      have h6e:i6=i:=by omega
                      have hfin:lm I Q=A5 ov M2 k:=by
                        rw[t3,h6e,←hl2];exact UB
                      obtain⟨st,_⟩:=k2.step (show k<i by omega) f4 f5 hnz (f:=ov) (fun y=>gh _ y hnz) t2 (by rw[hfin,←hMe,p2])
                      (try (simp -implicitDefEqProofs only[go_sem,h6',hwk]));repeat' first|(with_reducible first|exact tI|refine aI ?_ ?_|intro _|refine AJ ?_ ?_<;>intro _<;>try simp -implicitDefEqProofs only[go_sem,h6',hwk])|simp (disch:=omega) only[Ad]|((with_reducible first|apply A8|apply Ag|apply Ae|apply Ab);exact rfl)
                      all_goals first|omega|(simp<;>omega)|skip
                      all_goals first|exact st|skip
                · refine AU (α:=Nat×(List (List F))) (l0:=?l8) (m0:=?m8) (fun x=>[(17,.d (.int .i64 (x.1:Int)))]) (fun x=>[(78,.mat 29 3 false I (D4 x.2))]) (fun x=>x.1<=i/\PQ i I x.2/\lm I x.2=(A5 ov M2 k).take x.1++M2.drop x.1) (fun x=>i-x.1) (0,R) ?h08 ?he8 ?he28 ?hI8 ?step8
                  case h08=>(simp -implicitDefEqProofs only[go_sem];rfl)
                  case he8=>rfl
                  case he28=>rfl
                  case' step8=>(rintro⟨i6,Q⟩ hI8;try dsimp only at hI8)
                  case' hI8=>try dsimp only
                  · exact⟨by omega,p1,by rw[hMe];simp⟩
                  · obtain⟨t1,t2,t3⟩:=hI8
                    by_cases h6:i6<i
                    · have h6':(i6:Int)<(I.length:Int):=by omega
                      have hw6:IntKind.i64.wrap ((i6:Int)+1)=((i6+1:Nat):Int):=by rw[AZ _ (by omega)];omega
                      by_cases hik:i6=k
                      · subst hik
                        have hnx:lm I Q=(A5 ov M2 i6).take (i6+1)++M2.drop (i6+1):=by rw[t3];exact RH (by omega)
                        (try (simp -implicitDefEqProofs only[go_sem,h6',hw6]));repeat' first|(with_reducible first|exact tI|refine aI ?_ ?_|intro _|refine AJ ?_ ?_<;>intro _<;>try simp -implicitDefEqProofs only[go_sem,h6',hw6])|simp (disch:=omega) only[Ad]|((with_reducible first|apply A8|apply Ag|apply Ae|apply Ab);exact rfl)
                        all_goals first|omega|(simp<;>omega)|skip
                        all_goals first|exact hnx|exact t2|skip
                      · have hik':¬(i6:Int)=(k:Int):=by omega
                        have b1:I[i6]?.getD 0<Q.length:=by rw[t2.lr];exact t2.ix_lt h6
                        have b2:I[k]?.getD 0<Q.length:=by rw[t2.lr];exact t2.ix_lt (show k<i by omega)
                        have e6:Q[I[i6]?.getD 0]?.getD []=Ak M2 i6:=by
                          have:=DK t2 h6
                          rw[t3,UA (by omega)] at this
                          exact this.symm
                        have ek:Q[I[k]?.getD 0]?.getD []=Ak M2 k:=by
                          have:=DK t2 (show k<i by omega)
                          rw[t3,RI (by omega) (by omega)] at this
                          exact this.symm
                        have l6:=hS2.row i6 h6
                        have lk:=hS2.row k (by omega)
                        have hne:I[i6]?.getD 0≠I[k]?.getD 0:=fun e=>hik (t2.ix_inj h6 (show k<i by omega) e)
                        have ek2:(Ak M2 i6)[k]?.getD 0=Bk M2 i6 k:=rfl
                        have ek3:(Ak M2 k)[k]?.getD 0=Bk M2 k k:=rfl
                        have hI6l:i6<I.length:=by omega
                        have hk6:k<at_.length+1:=by omega
                        obtain⟨by_,hby⟩:∃y,ov (Bk M2 i6 k) (Bk M2 k k)=y:=⟨_,rfl⟩
                        have hnx:lm I (Q.set (I[i6]?.getD 0) (C7 (Ak M2 i6) (Ak M2 k) by_))=(A5 ov M2 k).take (i6+1)++M2.drop (i6+1):=by
                          have:=UO t2 h6 (C7 (Ak M2 i6) (Ak M2 k) by_)
                          rw[show FQ I i6=I[i6]?.getD 0 from rfl] at this
                          rw[this,t3,←hby]
                          exact RJ (by omega) hik
                        by_cases hz6:Bk M2 i6 k=0
                        · have hQ:Q.set (I[i6]?.getD 0) (C7 (Ak M2 i6) (Ak M2 k) by_)=Q:=by
                            rw[←hby,hz6,Zg,Tf _ _ (by rw[l6,lk]),←e6];exact OX b1
                          rw[hQ] at hnx
                          (try (simp -implicitDefEqProofs only[go_sem,h6',hw6,hik',b1,e6,ek2,l6,hI6l,hz6]));repeat' first|(with_reducible first|exact tI|refine aI ?_ ?_|intro _|refine AJ ?_ ?_<;>intro _<;>try simp -implicitDefEqProofs only[go_sem,h6',hw6,hik',b1,e6,ek2,l6,hI6l,hz6])|simp (disch:=omega) only[Ad]|((with_reducible first|apply A8|apply Ag|apply Ae|apply Ab);exact rfl)
                          all_goals first|omega|(simp<;>omega)|skip
                          all_goals first|exact hnx|exact t2|skip
                        · have c6:=Gp (Bk M2 i6 k) (Bk M2 k k)
                          rw[hby] at c6
                          have hRR:Q.set (I[i6]?.getD 0) (Ak M2 i6)=Q:=by rw[←e6];exact OX b1
                          have hUR:D4 Q=D4 (Q.set (I[i6]?.getD 0) (Ak M2 i6)):=by rw[hRR]
                          have hA:=HA (Ak M2 i6) (Ak M2 k) by_ (by rw[l6,lk])
                          (try (simp -implicitDefEqProofs only[go_sem,h6',hw6,hik',b1,b2,e6,ek,ek2,ek3,l6,lk,hI6l,hkI,hz6,hk6]));repeat' first|(with_reducible first|exact tI|refine aI ?_ ?_|intro _)|((first|with_reducible refine AJ ?_ ?_<;>intro _|(with_reducible refine isCall ?_);first|refine AE c6 ?_)<;>try (simp -implicitDefEqProofs only[go_sem,h6',hw6,hik',b1,b2,e6,ek,ek2,ek3,l6,lk,hI6l,hkI,hz6,hk6]))|simp (disch:=omega) only[Ad]|((with_reducible first|apply A8|apply Ag|apply Ae|apply Ab);exact rfl)
                          all_goals first|omega|(simp<;>omega)|skip
                          rw[hUR]
                          refine AU (α:=Nat×(List F)) (l0:=?l9) (m0:=?m9) (fun x=>[(19,.d (.int .i64 (x.1:Int)))]) (fun x=>[(78,.mat 29 3 false I (D4 (Q.set (I[i6]?.getD 0) x.2)))]) (fun x=>x.1<=at_.length+1/\x.2=(C7 (Ak M2 i6) (Ak M2 k) by_).take x.1++(Ak M2 i6).drop x.1) (fun x=>at_.length+1-x.1) (0,(Ak M2 i6)) ?h09 ?he9 ?he29 ?hI9 ?step9
                          case h09=>(simp -implicitDefEqProofs only[go_sem];rfl)
                          case he9=>rfl
                          case he29=>rfl
                          case' step9=>(rintro⟨m,r⟩ hI9;try dsimp only at hI9)
                          case' hI9=>try dsimp only
                          · exact⟨by omega,by simp⟩
                          · obtain⟨u1,u2⟩:=hI9
                            have hr:r.length=at_.length+1:=by rw[u2,M9 hA m (by rw[hA];omega),hA,l6]
                            have hBk:(Q.set (I[i6]?.getD 0) r)[I[k]?.getD 0]?.getD []=Ak M2 k:=by rw[eJ hne];exact ek
                            by_cases h7:m<at_.length+1
                            · have h7':(m:Int)<=(at_.length:Int):=by omega
                              have hw7:IntKind.i64.wrap ((m:Int)+1)=((m+1:Nat):Int):=by rw[AZ _ (by omega)];omega
                              have c7:=EW by_ ((Ak M2 k)[m]?.getD 0)
                              have g1:r[m]?.getD 0=(Ak M2 i6)[m]?.getD 0:=by rw[u2];exact M_ hA m (by rw[hA];omega)
                              have g2:r.set m (fa ((Ak M2 i6)[m]?.getD 0) (fm by_ ((Ak M2 k)[m]?.getD 0)))=(C7 (Ak M2 i6) (Ak M2 k) by_).take (m+1)++(Ak M2 i6).drop (m+1):=by
                                rw[u2,Ck,←SM (Ak M2 i6) (Ak M2 k) by_ m (by rw[l6,lk])];exact M8 hA m (by rw[hA];omega)
                              (try (simp -implicitDefEqProofs only[go_sem,h7',hw7,g1,Vo b1,hBk,Vn,hI6l,hkI,b1,b2,lk,List.length_set]));repeat' first|(with_reducible first|exact tI|refine aI ?_ ?_|intro _)|((first|with_reducible refine AJ ?_ ?_<;>intro _|(with_reducible refine isCall ?_);first|refine AE c7 ?_)<;>try (simp -implicitDefEqProofs only[go_sem,h7',hw7,g1,Vo b1,hBk,Vn,hI6l,hkI,b1,b2,lk,List.length_set]))|simp (disch:=omega) only[Ad]|((with_reducible first|apply A8|apply Ag|apply Ae|apply Ab);exact rfl)
                              all_goals first|omega|(simp<;>omega)|skip
                              all_goals first|exact g2|skip
                            · have h7':¬(m:Int)<=(at_.length:Int):=by omega
                              have hre:r=C7 (Ak M2 i6) (Ak M2 k) by_:=by
                                have hml:m=(C7 (Ak M2 i6) (Ak M2 k) by_).length:=by rw[hA,l6];omega
                                rw[u2,hml];exact NA hA
                              subst hre
                              have hpq:=t2.set (I[i6]?.getD 0) (C7 (Ak M2 i6) (Ak M2 k) by_)
                              (try (simp -implicitDefEqProofs only[go_sem,h7',hw6]));repeat' first|(with_reducible first|exact tI|refine aI ?_ ?_|intro _|refine AJ ?_ ?_<;>intro _<;>try simp -implicitDefEqProofs only[go_sem,h7',hw6])|simp (disch:=omega) only[Ad]|((with_reducible first|apply A8|apply Ag|apply Ae|apply Ab);exact rfl)
                              all_goals first|omega|(simp<;>omega)|skip
                              all_goals first|exact hnx|exact hpq|skip
                    · have h6':¬(i6:Int)<(I.length:Int):=by omega
                      have h6e:i6=i:=by omega
                      have hfin:lm I Q=A5 ov M2 k:=by
                        rw[t3,h6e,←hl2];exact UB
                      obtain⟨st,_⟩:=k2.step (show k<i by omega) f4 f5 hnz (f:=ov) (fun y=>gh _ y hnz) t2 (by rw[hfin,←hMe,p2])
                      (try (simp -implicitDefEqProofs only[go_sem,h6',hwk]));repeat' first|(with_reducible first|exact tI|refine aI ?_ ?_|intro _|refine AJ ?_ ?_<;>intro _<;>try simp -implicitDefEqProofs only[go_sem,h6',hwk])|simp (disch:=omega) only[Ad]|((with_reducible first|apply A8|apply Ag|apply Ae|apply Ab);exact rfl)
                      all_goals first|omega|(simp<;>omega)|skip
                      all_goals first|exact st|skip
        · have hk':¬(k:Int)<(at_.length:Int):=by omega
          have hke:k=at_.length:=by omega
          subst hke
          obtain⟨N,hN⟩:∃N,lm ix R=N:=⟨_,rfl⟩
          have hNl:N.length=i:=by rw[←hN,GH];exact li
          have hmat:Gw ix (D4 R)=N.map fun r=>.list false (Aa (iv r)):=by
            rw[YH fun j hj=>by rw[lr];exact k2.pq.lt j hj,←hN];rfl
          have hS:=k2.shp
          have hD:=k2.red.dia
          rw[hN] at hS hD
          (try (simp -implicitDefEqProofs only[go_sem,hk',hmat]));repeat' first|(with_reducible first|exact tI|refine aI ?_ ?_|intro _|refine AJ ?_ ?_<;>intro _<;>try simp -implicitDefEqProofs only[go_sem,hk',hmat])|simp (disch:=omega) only[Ad]|((with_reducible first|apply A8|apply Ag|apply Ae|apply Ab);exact rfl)
          all_goals first|omega|(simp<;>omega)|skip
          refine AU (α:=Nat) (l0:=?l10) (m0:=?m10) (fun x=>[(20,.d (.int .i64 (x:Int)))]) (fun x=>[]) (fun x=>at_.length<=x/\x<=i/\∀q,at_.length<=q->q<x->Bk N q at_.length=0) (fun x=>i-x) at_.length ?h010 ?he10 ?he210 ?hI10 ?step10
          case h010=>(simp -implicitDefEqProofs only[go_sem];rfl)
          case he10=>rfl
          case he210=>rfl
          case' step10=>(rintro t hI10;try dsimp only at hI10)
          case' hI10=>try dsimp only
          · exact⟨by omega,by omega,fun q _ _=>by omega⟩
          · obtain⟨u1,u2,u3⟩:=hI10
            by_cases h7:t<i
            · have h7':(t:Int)<(i:Int):=by omega
              have hw7:IntKind.i64.wrap ((t:Int)+1)=((t+1:Nat):Int):=by rw[AZ _ (by omega)];omega
              have er:N[t]?.getD default=Ak N t:=rfl
              have lr7:=hS.row t h7
              have ee7:(Ak N t)[at_.length]?.getD 0=Bk N t at_.length:=rfl
              by_cases hz7:Bk N t at_.length=0
              · (try (simp -implicitDefEqProofs only[go_sem,h7',hw7,hNl,er,lr7,ee7,hz7]));repeat' first|(with_reducible first|exact tI|refine aI ?_ ?_|intro _|refine AJ ?_ ?_<;>intro _<;>try simp -implicitDefEqProofs only[go_sem,h7',hw7,hNl,er,lr7,ee7,hz7])|simp (disch:=omega) only[Ad]|((with_reducible first|apply A8|apply Ag|apply Ae|apply Ab);exact rfl)
                all_goals first|omega|(simp<;>omega)|skip
                all_goals first
                  |(
                     rename_i q q1 q2
                     rcases Nat.lt_succ_iff_lt_or_eq.1 q2 with q2|rfl
                     · exact u3 q q1 q2
                     · exact hz7)
                  |skip
              · have hso:Gl L i at_ s=none:=k2.endsN hm u1 h7 (by rw[hN];exact hz7)
                rw[hso]
                (try (simp -implicitDefEqProofs only[go_sem,h7',hw7,hNl,er,lr7,ee7,hz7,OV]));repeat' first|(with_reducible first|exact tI|refine aI ?_ ?_|intro _|refine AJ ?_ ?_<;>intro _<;>try simp -implicitDefEqProofs only[go_sem,h7',hw7,hNl,er,lr7,ee7,hz7,OV])|simp (disch:=omega) only[Ad]|((with_reducible first|apply A8|apply Ag|apply Ae|apply Ab);exact rfl)
                all_goals first|omega|(simp<;>omega)|skip
                all_goals first|rfl|skip
            · have h7':¬(t:Int)<(i:Int):=by omega
              obtain⟨v0,hv0⟩:∃v,(List.range at_.length).map (fun q=>ov (Bk N q at_.length) (Bk N q q))=v:=⟨_,rfl⟩
              have hvl:v0.length=at_.length:=by rw[←hv0];simp
              have hva:∀q,q<at_.length->Di v0 q=ov (Bk N q at_.length) (Bk N q q):=fun q hq=>by
                unfold Di
                rw[←hv0,List.getElem?_map,List.getElem?_range hq]
                simp only[Option.map_some,Option.getD_some]
              have hso:Gl L i at_ s=some v0:=k2.ends hL hp hm v0 hvl (fun q hq=>by rw[hN,hva q hq];exact gh _ _ (hD q hq)) (fun q q1 q2=>by
                rw[hN];exact u3 q q1 (by omega))
              rw[hso]
              (try (simp -implicitDefEqProofs only[go_sem,h7',hNl]));repeat' first|(with_reducible first|exact tI|refine aI ?_ ?_|intro _|refine AJ ?_ ?_<;>intro _<;>try simp -implicitDefEqProofs only[go_sem,h7',hNl])|simp (disch:=omega) only[Ad]|((with_reducible refine Ca ?_);refine⟨(_,_,_,_),rfl,?_,?_⟩)|((with_reducible refine Ca ?_);refine⟨(_,_,_),rfl,?_,?_⟩)|((with_reducible refine Ca ?_);refine⟨(_,_),rfl,?_,?_⟩)|((with_reducible refine Ca ?_);refine⟨_,rfl,?_,?_⟩)
              all_goals first|omega|(simp<;>omega)|skip
              refine AU (α:=Nat×Bool×(List F)) (l0:=?l11) (m0:=?m11) (fun x=>[(22,.d (.int .i64 (x.1:Int)))]) (fun x=>[(225,.row 3 1 x.2.1 (Aa (iv x.2.2)))]) (fun x=>x.1<=at_.length/\x.2.2=v0.take x.1/\x.2.1=x.2.2.isEmpty) (fun x=>at_.length-x.1) (0,true,[]) ?h011 ?he11 ?he211 ?hI11 ?step11
              case h011=>(simp -implicitDefEqProofs only[go_sem];rfl)
              case he11=>rfl
              case he211=>rfl
              case' step11=>(rintro⟨j,b,v⟩ hI11;try dsimp only at hI11)
              case' hI11=>try dsimp only
              · exact⟨by omega,rfl,rfl⟩
              · obtain⟨y1,y2,y3⟩:=hI11
                have hvj:v.length=j:=by rw[y2];simp;omega
                by_cases h8:j<at_.length
                · have h8':(j:Int)<(at_.length:Int):=by omega
                  have hw8:IntKind.i64.wrap ((j:Int)+1)=((j+1:Nat):Int):=by rw[AZ _ (by omega)];omega
                  have er:N[j]?.getD default=Ak N j:=rfl
                  have lr8:=hS.row j (by omega)
                  have ee8:(Ak N j)[at_.length]?.getD 0=Bk N j at_.length:=rfl
                  have ee9:(Ak N j)[j]?.getD 0=Bk N j j:=rfl
                  have c8:=Gp (Bk N j at_.length) (Bk N j j)
                  have hnx:v++[ov (Bk N j at_.length) (Bk N j j)]=v0.take (j+1):=by
                    rw[←hva j h8,y2];exact Az v0 0 j (by omega)
                  (try (simp -implicitDefEqProofs only[go_sem,h8',hw8,hNl,er,lr8,ee8,ee9]));repeat' first|(with_reducible first|exact tI|refine aI ?_ ?_|intro _)|((first|with_reducible refine AJ ?_ ?_<;>intro _|(with_reducible refine isCall ?_);first|refine AE c8 ?_)<;>try (simp -implicitDefEqProofs only[go_sem,h8',hw8,hNl,er,lr8,ee8,ee9]))|simp (disch:=omega) only[Ad]|((with_reducible first|apply A8|apply Ag|apply Ae|apply Ab);exact rfl)
                  all_goals first|omega|(simp<;>omega)|skip
                  all_goals first|exact hnx|(exact(Kl _ _).symm)|(simp at *;done)|(simp at *;omega)|skip
                · have h8':¬(j:Int)<(at_.length:Int):=by omega
                  have hje:j=v0.length:=by omega
                  have hvv:v=v0:=by rw[y2,hje,List.take_length]
                  subst hvv
                  subst y3
                  (try (simp -implicitDefEqProofs only[go_sem,h8',OU]));repeat' first|(with_reducible first|exact tI|refine aI ?_ ?_|intro _|refine AJ ?_ ?_<;>intro _<;>try simp -implicitDefEqProofs only[go_sem,h8',OU])|simp (disch:=omega) only[Ad]|((with_reducible first|apply A8|apply Ag|apply Ae|apply Ab);exact rfl)
                  all_goals first|omega|(simp<;>omega)|skip
                  all_goals first|rfl|skip
end Go.Pw

/- A part of the proof. -/
import Derived.Test.YtpcpcjbbdgmohaaDoorTwrG
import Derived.Test.YtpcpcjbbdgmohaaDoorCorrectSt
set_option linter.all false
section
open Go Go.Pw Go.Proofs
namespace Go.Pw
set_option maxRecDepth 100000
set_option maxHeartbeats 6400000
def dG (o:Option (List F)):D:=match o with
 |some v=>.tup [.list v.isEmpty (us v),.bool true]
 |none=>.tup [.list true [],.bool false]
theorem ME (v:List F):dG (some v)=.tup [.list v.isEmpty (us v),.bool true]:=rfl
theorem MF:dG none=.tup [.list true [],.bool false]:=rfl
theorem Bi {α:Type}(w:List α) (d:α) (i:Nat) (h:i<w.length):w.take i++[w[i]?.getD d]=w.take (i+1):=by
 rw[List.take_add_one,List.getElem?_eq_getElem h];rfl
theorem Up (l:List Nat) (i:Nat) (h:i<l.length):l[i]?.getD 0=l[i]:=by rw[List.getElem?_eq_getElem h];rfl
attribute [local congr] Bx A9 A_ Au Bz A0 A2 A1 Ar An Ai Ab Av Aj Ax BG BK BI BJ BH BL BD Ay Aw Al Az Am BB BT Ak BE BF BC A' BA B1
attribute [local irreducible] IntKind.wrap BM Option.getD and or
theorem L0 (L P:Nat) (n1 n2:Bool) (s:List F) (at_:List Nat) (hL:L<=15) (hP:1<=P) (hP2:P<=15) (hs:s.length=P) (hp:Wz L at_) (hm:at_.length<=P) :
    DE E0 F2 [Qz L P,.list n1 (us s),.list n2 (A4 (ni at_))] (dG (J_ L P at_ s)):=by
  have el:(Mu L P at_ s).length=P:=(Li L P at_ s).len
  refine AP IM A5 (by simp) fun hwf=>?_
  rw[AU];unfold FW
  (try (simp -implicitDefEqProofs only[go_sem,Bj]));repeat' first|(with_reducible first|exact tI|refine aI ?_ ?_|intro _)|((first|with_reducible refine AN ?_ ?_<;>intro _)<;>try (simp -implicitDefEqProofs only[go_sem,Bj]))|simp (disch:=omega) only[Ap]|((with_reducible refine Dq ?_);refine⟨(_,_,_,_),rfl,?_,?_⟩)|((with_reducible refine Ad ?_);refine⟨(_,_,_),rfl,?_,?_⟩)|((with_reducible refine AZ ?_);refine⟨(_,_),rfl,?_,?_⟩)|((with_reducible refine Ae ?_);refine⟨_,rfl,?_,?_⟩)
  refine AX (α:=Nat×Bool×(List Nat)×(List (List F))) (l0:=?l1) (m0:=?m1) (fun x=>[(25,.d (.int .i64 (x.1:Int)))]) (fun x=>[(50,.mat 197 173 x.2.1 x.2.2.1 (EB x.2.2.2))]) (fun x=>x.1<=P/\x.2.2.2=(Mu L P at_ s).take x.1/\x.2.2.1=List.range x.1/\x.2.1=decide (x.1=0)) (fun x=>P-x.1) (0,true,[],[]) ?h01 ?he1 ?he21 ?hI1 ?step1
  case h01=>(simp -implicitDefEqProofs only[go_sem];rfl)
  case he1=>rfl
  case he21=>rfl
  case' step1=>(rintro⟨i,nl,ix,R⟩ hI;try dsimp only at hI)
  case' hI1=>try dsimp only
  · exact⟨by omega,by simp,rfl,rfl⟩
  · obtain⟨h1,h2,h3,h4⟩:=hI
    have hR:R.length=i:=by rw[h2];simp;omega
    by_cases h:i<P
    · have h':(i:Int)<(s.length:Int):=by omega
      have hw:IntKind.i64.wrap ((i:Int)+1)=((i+1:Nat):Int):=by rw[Af _ (by omega)];omega
      (try (simp -implicitDefEqProofs only[go_sem,h',Bj]));repeat' first|(with_reducible first|exact tI|refine aI ?_ ?_|intro _)|((first|with_reducible refine AN ?_ ?_<;>intro _)<;>try (simp -implicitDefEqProofs only[go_sem,h',Bj]))|simp (disch:=omega) only[Ap]|((with_reducible refine Dq ?_);refine⟨(_,_,_,_),rfl,?_,?_⟩)|((with_reducible refine Ad ?_);refine⟨(_,_,_),rfl,?_,?_⟩)|((with_reducible refine AZ ?_);refine⟨(_,_),rfl,?_,?_⟩)|((with_reducible refine Ae ?_);refine⟨_,rfl,?_,?_⟩)
      all_goals first|omega|(simp<;>omega)|skip
      refine AX (α:=Nat×Bool×(List F)) (l0:=?l2) (m0:=?m2) (fun x=>[(32,.d (.int .i64 (x.1:Int)))]) (fun x=>[(42,.row 173 1 x.2.1 (us x.2.2))]) (fun x=>x.1<=at_.length/\x.2.2=(at_.take x.1).map (fun q=>T8 L i q)/\x.2.1=x.2.2.isEmpty) (fun x=>at_.length-x.1) (0,true,[]) ?h02 ?he2 ?he22 ?hI2 ?step2
      case h02=>(simp -implicitDefEqProofs only[go_sem];rfl)
      case he2=>rfl
      case he22=>rfl
      case' step2=>(rintro⟨j,b,r⟩ hI2;try dsimp only at hI2)
      case' hI2=>try dsimp only
      · exact⟨by omega,rfl,rfl⟩
      · obtain⟨q1,q2,q3⟩:=hI2
        have hrl:r.length=j:=by rw[q2];simp;omega
        by_cases hj:j<at_.length
        · have hj':(j:Int)<(at_.length:Int):=by omega
          have hwj:IntKind.i64.wrap ((j:Int)+1)=((j+1:Nat):Int):=by rw[Af _ (by omega)];omega
          have hlt:=hp.lt (at_[j]?.getD 0) (by rw[Up _ _ hj];exact List.getElem_mem hj)
          have c1:=Gg L P i (at_[j]?.getD 0) (by omega) (by omega) hlt
          have hk:r++[T8 L i (at_[j]?.getD 0)]=(at_.take (j+1)).map (fun q=>T8 L i q):=by
            rw[q2,←Bi at_ 0 j hj];simp
          rw[Bj] at c1
          (try (simp -implicitDefEqProofs only[go_sem,hj',hwj]));repeat' first|(with_reducible first|exact tI|refine aI ?_ ?_|intro _)|((first|with_reducible refine AN ?_ ?_<;>intro _|(with_reducible refine isCall ?_);first|refine AG c1 ?_)<;>try (simp -implicitDefEqProofs only[go_sem,hj',hwj]))|simp (disch:=omega) only[Ap]|((with_reducible refine Dq ?_);refine⟨(_,_,_,_),rfl,?_,?_⟩)|((with_reducible refine Ad ?_);refine⟨(_,_,_),rfl,?_,?_⟩)|((with_reducible refine AZ ?_);refine⟨(_,_),rfl,?_,?_⟩)|((with_reducible refine Ae ?_);refine⟨_,rfl,?_,?_⟩)
          all_goals first|omega|(simp<;>omega)|skip
          all_goals first|exact hk|(exact(Lk _ _).symm)|(simp at *;done)|(simp at *;omega)|skip
        · have hj':¬(j:Int)<(at_.length:Int):=by omega
          have hjj:j=at_.length:=by omega
          have hrow:r++[s[i]?.getD 0]=BV (Mu L P at_ s) i:=by
            rw[Rs _ _ _ _ _ h,q2,hjj,List.take_length];rfl
          have hnx:R++[BV (Mu L P at_ s) i]=(Mu L P at_ s).take (i+1):=by
            rw[h2];exact Bi _ _ _ (by omega)
          have hix:ix++[R.length]=List.range (i+1):=by rw[h3,hR,List.range_succ]
          have hil:ix.length=i:=by rw[h3];simp
          (try (simp -implicitDefEqProofs only[go_sem,hj',hw,hrow,hnx,hix]));repeat' first|(with_reducible first|exact tI|refine aI ?_ ?_|intro _)|((first|with_reducible refine AN ?_ ?_<;>intro _)<;>try (simp -implicitDefEqProofs only[go_sem,hj',hw,hrow,hnx,hix]))|simp (disch:=omega) only[Ap]|((with_reducible refine Dq ?_);refine⟨(_,_,_,_),rfl,?_,?_⟩)|((with_reducible refine Ad ?_);refine⟨(_,_,_),rfl,?_,?_⟩)|((with_reducible refine AZ ?_);refine⟨(_,_),rfl,?_,?_⟩)|((with_reducible refine Ae ?_);refine⟨_,rfl,?_,?_⟩)
          all_goals first|omega|(simp<;>omega)|skip
          all_goals first|rfl|exact List.range_succ.symm|(simp at *;done)|(simp at *;omega)|skip
    · have h':¬(i:Int)<(s.length:Int):=by omega
      have hi:i=P:=by omega
      subst hi
      have e2:R=Mu L i at_ s:=by rw[h2,List.take_of_length_le (by omega)]
      have e4:nl=false:=by rw[h4];simp;omega
      subst e4
      clear h4
      subst e2 h3
      (try (simp -implicitDefEqProofs only[go_sem,h',Bj]));repeat' first|(with_reducible first|exact tI|refine aI ?_ ?_|intro _)|((first|with_reducible refine AN ?_ ?_<;>intro _)<;>try (simp -implicitDefEqProofs only[go_sem,h',Bj]))|simp (disch:=omega) only[Ap]|((with_reducible refine Dq ?_);refine⟨(_,_,_,_),rfl,?_,?_⟩)|((with_reducible refine Ad ?_);refine⟨(_,_,_),rfl,?_,?_⟩)|((with_reducible refine AZ ?_);refine⟨(_,_),rfl,?_,?_⟩)|((with_reducible refine Ae ?_);refine⟨_,rfl,?_,?_⟩)
      all_goals first|omega|(simp<;>omega)|skip
      refine AX (α:=Nat×(List Nat)×(List (List F))) (l0:=?l3) (m0:=?m3) (fun x=>[(54,.d (.int .i64 (x.1:Int)))]) (fun x=>[(50,.mat 197 173 false x.2.1 (EB x.2.2))]) (fun x=>x.1<=at_.length/\RF L i at_ s x.2.1 x.2.2 x.1/\(∀j,j<x.1->DW (lm x.2.1 x.2.2) j j=1)) (fun x=>at_.length-x.1) (0,(List.range i),(Mu L i at_ s)) ?h03 ?he3 ?he23 ?hI3 ?step3
      case h03=>(simp -implicitDefEqProofs only[go_sem];rfl)
      case he3=>rfl
      case he23=>rfl
      case' step3=>(rintro⟨k,ix,R⟩ hI3;try dsimp only at hI3)
      case' hI3=>try dsimp only
      · exact⟨by omega,RF.start,fun j hj=>absurd hj (by omega)⟩
      · obtain⟨k1,k2,k3⟩:=hI3
        have li:=k2.pq.li
        have lr:=k2.pq.lr
        by_cases hk:k<at_.length
        · have hk':(k:Int)<(at_.length:Int):=by omega
          have hwk:IntKind.i64.wrap ((k:Int)+1)=((k+1:Nat):Int):=by rw[Af _ (by omega)];omega
          (try (simp -implicitDefEqProofs only[go_sem,hk']));repeat' first|(with_reducible first|exact tI|refine aI ?_ ?_|intro _)|((first|with_reducible refine AN ?_ ?_<;>intro _)<;>try (simp -implicitDefEqProofs only[go_sem,hk']))|simp (disch:=omega) only[Ap]|((with_reducible refine Dq ?_);refine⟨(_,_,_,_),rfl,?_,?_⟩)|((with_reducible refine Ad ?_);refine⟨(_,_,_),rfl,?_,?_⟩)|((with_reducible refine AZ ?_);refine⟨(_,_),rfl,?_,?_⟩)|((with_reducible refine Ae ?_);refine⟨_,rfl,?_,?_⟩)
          all_goals first|omega|(simp<;>omega)|skip
          refine AX (α:=Nat) (l0:=?l4) (m0:=?m4) (fun x=>[(15,.d (.int .i64 (x:Int)))]) (fun x=>[]) (fun x=>k<=x/\x<=i/\∀q,k<=q->q<x->DW (lm ix R) q k=0) (fun x=>i-x) k ?h04 ?he4 ?he24 ?hI4 ?step4
          case h04=>(simp -implicitDefEqProofs only[go_sem];rfl)
          case he4=>rfl
          case he24=>rfl
          case' step4=>(rintro f hI4;try dsimp only at hI4)
          case' hI4=>try dsimp only
          · exact⟨by omega,by omega,fun q _ _=>by omega⟩
          · obtain⟨f1,f2,f3⟩:=hI4
            by_cases hf:f<i
            · have hf':(f:Int)<(ix.length:Int):=by omega
              have hwf1:IntKind.i64.wrap ((f:Int)+1)=((f+1:Nat):Int):=by rw[Af _ (by omega)];omega
              have a1:ix[f]?.getD 0<R.length:=by rw[lr];exact k2.pq.ix_lt hf
              have rl:(R[ix[f]?.getD 0]?.getD []).length=at_.length+1:=k2.rlen hf
              have ee:(R[ix[f]?.getD 0]?.getD [])[k]?.getD 0=DW (lm ix R) f k:=by
                show _=EG (BV (lm ix R) f) k
                rw[Fh k2.pq hf];rfl
              by_cases hz:DW (lm ix R) f k=0
              · (try (simp -implicitDefEqProofs only[go_sem,hf',hwf1,ee,hz]));repeat' first|(with_reducible first|exact tI|refine aI ?_ ?_|intro _)|((first|with_reducible refine AN ?_ ?_<;>intro _)<;>try (simp -implicitDefEqProofs only[go_sem,hf',hwf1,ee,hz]))|simp (disch:=omega) only[Ap]|((with_reducible refine Dq ?_);refine⟨(_,_,_,_),rfl,?_,?_⟩)|((with_reducible refine Ad ?_);refine⟨(_,_,_),rfl,?_,?_⟩)|((with_reducible refine AZ ?_);refine⟨(_,_),rfl,?_,?_⟩)|((with_reducible refine Ae ?_);refine⟨_,rfl,?_,?_⟩)
                all_goals first|omega|(simp<;>omega)|skip
                all_goals first
                  |(
                     rename_i q q1 q2
                     rcases Nat.lt_succ_iff_lt_or_eq.1 q2 with q2|rfl
                     · exact f3 q q1 q2
                     · exact hz)
                  |skip
              · have hfe:¬(f:Int)=(ix.length:Int):=by omega
                obtain⟨p1,p2,p3⟩:=bG k2.pq (show k<i by omega) hf
                obtain⟨I,hIe⟩:∃I,(ix.set k (ix[f]?.getD 0)).set f (ix[k]?.getD 0)=I:=⟨_,rfl⟩
                rw[show Fi ix f=ix[f]?.getD 0 from rfl,show Fi ix k=ix[k]?.getD 0 from rfl,hIe] at p1 p2 p3
                obtain⟨a,hae⟩:∃a,ix[f]?.getD 0=a:=⟨_,rfl⟩
                rw[hae] at a1 rl ee p3 hIe
                have hIk:I[k]?.getD 0=a:=p3
                have hIl:=p1.li
                have a0:ix[k]?.getD 0<R.length:=by rw[lr];exact k2.pq.ix_lt (show k<i by omega)
                obtain⟨ra,hra⟩:∃ra,R[a]?.getD []=ra:=⟨_,rfl⟩
                rw[hra] at rl ee
                have hkr:k<ra.length:=by omega
                obtain⟨pv,hx⟩:∃pv,DW (lm ix R) f k=pv:=⟨_,rfl⟩
                have c1:=KI pv
                have hz0:=hz
                rw[hx] at hz ee
                have hif:k<ix.length:=by omega
                have hif2:f<ix.length:=by omega
                have hraf:∀b:F,(Gv ra b).length=ra.length:=fun b=>Rq ra b
                have hRR:R.set a ra=R:=by rw[←hra];exact Xa a1
                have hUR:EB R=EB (R.set a ra):=by rw[hRR]
                have hkI:k<I.length:=by omega
                (try (simp -implicitDefEqProofs only[go_sem,hf',ee,hz,hfe,hae,hra,hIe,hIk,a0,a1,hkr,hif,hif2,hkI,rl,List.length_set]));repeat' first|(with_reducible first|exact tI|refine aI ?_ ?_|intro _)|((first|with_reducible refine AN ?_ ?_<;>intro _|(with_reducible refine isCall ?_);first|refine AG c1 ?_)<;>try (simp -implicitDefEqProofs only[go_sem,hf',ee,hz,hfe,hae,hra,hIe,hIk,a0,a1,hkr,hif,hif2,hkI,rl,List.length_set]))|simp (disch:=omega) only[Ap]|((with_reducible refine Dq ?_);refine⟨(_,_,_,_),rfl,?_,?_⟩)|((with_reducible refine Ad ?_);refine⟨(_,_,_),rfl,?_,?_⟩)|((with_reducible refine AZ ?_);refine⟨(_,_),rfl,?_,?_⟩)|((with_reducible refine Ae ?_);refine⟨_,rfl,?_,?_⟩)
                all_goals first|omega|(simp<;>omega)|skip
                rw[hUR]
                refine AX (α:=Nat×(List F)) (l0:=?l5) (m0:=?m5) (fun x=>[(105,.d (.int .i64 (x.1:Int)))]) (fun x=>[(50,.mat 197 173 false I (EB (R.set a x.2)))]) (fun x=>x.1<=at_.length+1/\x.2=(Gv ra (fi pv)).take x.1++ra.drop x.1) (fun x=>at_.length+1-x.1) (0,ra) ?h05 ?he5 ?he25 ?hI5 ?step5
                case h05=>(simp -implicitDefEqProofs only[go_sem];rfl)
                case he5=>rfl
                case he25=>rfl
                case' step5=>(rintro⟨i5,r⟩ hI5;try dsimp only at hI5)
                case' hI5=>try dsimp only
                · exact⟨by omega,by simp⟩
                · obtain⟨r1,r2⟩:=hI5
                  have hr:r.length=at_.length+1:=by rw[r2,RL (hraf _) i5 (by rw[hraf];omega),hraf];exact rl
                  by_cases h5:i5<at_.length+1
                  · have h5':(i5:Int)<((at_.length+1:Nat):Int):=by omega
                    have hw5:IntKind.i64.wrap ((i5:Int)+1)=((i5+1:Nat):Int):=by rw[Af _ (by omega)];omega
                    have c5:=DV (ra[i5]?.getD 0) (fi pv)
                    have g1:r[i5]?.getD 0=ra[i5]?.getD 0:=by rw[r2];exact RM (hraf _) i5 (by rw[hraf];omega)
                    have g2:r.set i5 (fm (ra[i5]?.getD 0) (fi pv))=(Gv ra (fi pv)).take (i5+1)++ra.drop (i5+1):=by
                      rw[r2,←show (Gv ra (fi pv))[i5]?.getD 0=fm (ra[i5]?.getD 0) (fi pv) from Od ra (fi pv) i5]
                      exact RK (hraf _) i5 (by rw[hraf];omega)
                    (try (simp -implicitDefEqProofs only[go_sem,h5',hw5,g1,aH a1,aF,hIk,hkI,List.length_set]));repeat' first|(with_reducible first|exact tI|refine aI ?_ ?_|intro _)|((first|with_reducible refine AN ?_ ?_<;>intro _|(with_reducible refine isCall ?_);first|refine AG c5 ?_)<;>try (simp -implicitDefEqProofs only[go_sem,h5',hw5,g1,aH a1,aF,hIk,hkI,List.length_set]))|simp (disch:=omega) only[Ap]|((with_reducible refine Dq ?_);refine⟨(_,_,_,_),rfl,?_,?_⟩)|((with_reducible refine Ad ?_);refine⟨(_,_,_),rfl,?_,?_⟩)|((with_reducible refine AZ ?_);refine⟨(_,_),rfl,?_,?_⟩)|((with_reducible refine Ae ?_);refine⟨_,rfl,?_,?_⟩)
                    all_goals first|omega|(simp<;>omega)|skip
                    all_goals first|exact g2|skip
                  · have h5':¬(i5:Int)<((at_.length+1:Nat):Int):=by omega
                    have hre:r=Gv ra (fi pv):=by
                      have:i5=(Gv ra (fi pv)).length:=by rw[hraf];omega
                      rw[r2,this];exact RN (hraf _)
                    subst hre
                    clear r2
                    obtain⟨R2,hR2⟩:∃R2,R.set a (Gv ra (fi pv))=R2:=⟨_,rfl⟩
                    rw[hR2]
                    have pq2:PQ i I R2:=by rw[←hR2];exact p1.set _ _
                    have hM2:lm I R2=(swp (lm ix R) k f).set k (Gv (BV (swp (lm ix R) k f) k) (fi (DW (lm ix R) f k))):=by
                      have e1:=YR p1 (show k<i by omega) (Gv ra (fi pv))
                      rw[p3,hR2,p2] at e1
                      rw[e1,hx]
                      have e2:BV (swp (lm ix R) k f) k=ra:=by
                        rw[←p2,Fh p1 (show k<i by omega),p3];exact hra
                      rw[e2]
                    obtain⟨M2,hMe⟩:∃M2,lm I R2=M2:=⟨_,rfl⟩
                    have hl2:M2.length=i:=by rw[←hMe,HL];exact hIl
                    have hS2:Ot M2 i (at_.length+1):=by rw[←hMe,hM2];exact(k2.shp.swp (show k<i by omega) hf).scl (show k<i by omega) _
                    (try (simp -implicitDefEqProofs only[go_sem,h5']));repeat' first|(with_reducible first|exact tI|refine aI ?_ ?_|intro _)|((first|with_reducible refine AN ?_ ?_<;>intro _)<;>try (simp -implicitDefEqProofs only[go_sem,h5']))|simp (disch:=omega) only[Ap]|((with_reducible refine Dq ?_);refine⟨(_,_,_,_),rfl,?_,?_⟩)|((with_reducible refine Ad ?_);refine⟨(_,_,_),rfl,?_,?_⟩)|((with_reducible refine AZ ?_);refine⟨(_,_),rfl,?_,?_⟩)|((with_reducible refine Ae ?_);refine⟨_,rfl,?_,?_⟩)
                    all_goals first|omega|(simp<;>omega)|skip
                    refine AX (α:=Nat×(List (List F))) (l0:=?l6) (m0:=?m6) (fun x=>[(122,.d (.int .i64 (x.1:Int)))]) (fun x=>[(50,.mat 197 173 false I (EB x.2))]) (fun x=>x.1<=i/\PQ i I x.2/\lm I x.2=(BX (fun y _=>y) M2 k).take x.1++M2.drop x.1) (fun x=>i-x.1) (0,R2) ?h06 ?he6 ?he26 ?hI6 ?step6
                    case h06=>(simp -implicitDefEqProofs only[go_sem];rfl)
                    case he6=>rfl
                    case he26=>rfl
                    case' step6=>(rintro⟨i6,Q⟩ hI6;try dsimp only at hI6)
                    case' hI6=>try dsimp only
                    · exact⟨by omega,pq2,by rw[hMe];simp⟩
                    · obtain⟨t1,t2,t3⟩:=hI6
                      by_cases h6:i6<i
                      · have h6':(i6:Int)<(I.length:Int):=by omega
                        have hw6:IntKind.i64.wrap ((i6:Int)+1)=((i6+1:Nat):Int):=by rw[Af _ (by omega)];omega
                        by_cases hik:i6=k
                        · subst hik
                          have hnx:lm I Q=(BX (fun y _=>y) M2 i6).take (i6+1)++M2.drop (i6+1):=by rw[t3];exact Xp (by omega)
                          (try (simp -implicitDefEqProofs only[go_sem,h6',hw6]));repeat' first|(with_reducible first|exact tI|refine aI ?_ ?_|intro _)|((first|with_reducible refine AN ?_ ?_<;>intro _)<;>try (simp -implicitDefEqProofs only[go_sem,h6',hw6]))|simp (disch:=omega) only[Ap]|((with_reducible refine Dq ?_);refine⟨(_,_,_,_),rfl,?_,?_⟩)|((with_reducible refine Ad ?_);refine⟨(_,_,_),rfl,?_,?_⟩)|((with_reducible refine AZ ?_);refine⟨(_,_),rfl,?_,?_⟩)|((with_reducible refine Ae ?_);refine⟨_,rfl,?_,?_⟩)
                          all_goals first|omega|(simp<;>omega)|skip
                          all_goals first|exact hnx|exact t2|skip
                        · have hik':¬(i6:Int)=(k:Int):=by omega
                          have b1:I[i6]?.getD 0<Q.length:=by rw[t2.lr];exact t2.ix_lt h6
                          have b2:a<Q.length:=by rw[t2.lr,←p3];exact t2.ix_lt (show k<i by omega)
                          have e6:Q[I[i6]?.getD 0]?.getD []=BV M2 i6:=by
                            have:=Fh t2 h6
                            rw[t3,aO (by omega)] at this
                            exact this.symm
                          have ek:Q[a]?.getD []=BV M2 k:=by
                            have:=Fh t2 (show k<i by omega)
                            rw[t3,Xq (by omega) (by omega),p3] at this
                            exact this.symm
                          have l6:=hS2.row i6 h6
                          have lk:=hS2.row k (by omega)
                          have hne:I[i6]?.getD 0≠a:=by
                            rw[←hIk]
                            exact fun e=>hik (t2.ix_inj h6 (show k<i by omega) e)
                          have ek2:(BV M2 i6)[k]?.getD 0=DW M2 i6 k:=rfl
                          have c6:=cQ 197 173 false I Q (I[i6]?.getD 0) a (DW M2 i6 k) hne b1 b2 (by rw[e6,ek,l6,lk]) (by rw[ek,lk];omega)
                          rw[e6,ek] at c6
                          have hnx:lm I (Q.set (I[i6]?.getD 0) (Fz (BV M2 i6) (BV M2 k) (DW M2 i6 k)))=(BX (fun y _=>y) M2 k).take (i6+1)++M2.drop (i6+1):=by
                            have:=YR t2 h6 (Fz (BV M2 i6) (BV M2 k) (DW M2 i6 k))
                            rw[show Fi I i6=I[i6]?.getD 0 from rfl] at this
                            rw[this,t3]
                            exact Xr (f:=fun y _=>y) (by omega) hik
                          have hpq:=t2.set (I[i6]?.getD 0) (Fz (BV M2 i6) (BV M2 k) (DW M2 i6 k))
                          have hI6l:i6<I.length:=by omega
                          (try (simp -implicitDefEqProofs only[go_sem,h6',hw6,hik',hIk,b1,e6,ek2,l6,hkI,hI6l]));repeat' first|(with_reducible first|exact tI|refine aI ?_ ?_|intro _)|((first|with_reducible refine AN ?_ ?_<;>intro _|(with_reducible refine isCall ?_);first|(refine D_ ([((900000,0),(50,0))]) ([((900000,0),(50,0))]) (c6) (by repeat' first|exact True.intro|exact rfl|refine And.intro ?_ ?_) (by simp[Handed,DG.get,AW.ren,AV.ren,AV.ren.renL,AI.get,Bl,Bu,DR,AI.reach,AV.sites,AV.sites.sitesL,AI.osites]) (by simp[B0,EF,B6,DG.get,DR,Dv,B8]) (by rfl) (by simp only[Db,DG.get,AW.ren,AV.ren,AV.ren.renL,and_self,and_true,true_and,if_true,reduceIte];rfl) ?_))<;>try (simp -implicitDefEqProofs only[go_sem,h6',hw6,hik',hIk,b1,e6,ek2,l6,hkI,hI6l]))|simp (disch:=omega) only[Ap]|((with_reducible refine Dq ?_);refine⟨(_,_,_,_),rfl,?_,?_⟩)|((with_reducible refine Ad ?_);refine⟨(_,_,_),rfl,?_,?_⟩)|((with_reducible refine AZ ?_);refine⟨(_,_),rfl,?_,?_⟩)|((with_reducible refine Ae ?_);refine⟨_,rfl,?_,?_⟩)
                          all_goals first|omega|(simp<;>omega)|skip
                          all_goals first|exact hnx|exact hpq|skip
                      · have h6':¬(i6:Int)<(I.length:Int):=by omega
                        have h6e:i6=i:=by omega
                        have hfin:lm I Q=BX (fun y _=>y) M2 k:=by
                          rw[t3,h6e,←hl2];exact aP
                        obtain⟨st,sd⟩:=k2.stepS k3 (show k<i by omega) f1 hf hz0 t2 (by rw[hfin,←hMe,hM2])
                        (try (simp -implicitDefEqProofs only[go_sem,h6',hwk]));repeat' first|(with_reducible first|exact tI|refine aI ?_ ?_|intro _)|((first|with_reducible refine AN ?_ ?_<;>intro _)<;>try (simp -implicitDefEqProofs only[go_sem,h6',hwk]))|simp (disch:=omega) only[Ap]|((with_reducible refine Dq ?_);refine⟨(_,_,_,_),rfl,?_,?_⟩)|((with_reducible refine Ad ?_);refine⟨(_,_,_),rfl,?_,?_⟩)|((with_reducible refine AZ ?_);refine⟨(_,_),rfl,?_,?_⟩)|((with_reducible refine Ae ?_);refine⟨_,rfl,?_,?_⟩)
                        all_goals first|omega|(simp<;>omega)|skip
                        all_goals first|exact st|(rename_i j hj;exact sd j hj)|skip
            · have hf':¬(f:Int)<(ix.length:Int):=by omega
              have hfe:f=i:=by omega
              exact(k2.fail hL hp hm hk fun q q1 q2=>f3 q q1 (by omega)).elim
        · have hk':¬(k:Int)<(at_.length:Int):=by omega
          have hke:k=at_.length:=by omega
          subst hke
          obtain⟨N,hN⟩:∃N,lm ix R=N:=⟨_,rfl⟩
          have hNl:N.length=i:=by rw[←hN,HL];exact li
          have hmat:I5 ix (EB R)=N.map fun r=>.list false (us r):=by
            rw[Tf fun j hj=>by rw[lr];exact k2.pq.lt j hj,←hN];rfl
          have hun:Cn 1 (N.map fun r=>D.list false (us r))=True:=RO fun _=>rfl
          have hmi:(at_.length:Int)<=(i:Int):=by omega
          have hsl:((N.map fun r=>D.list false (us r)).drop at_.length).take (i-at_.length)=(N.drop at_.length).map fun r=>D.list false (us r):=by
            rw[List.take_of_length_le (by simp;omega),List.map_drop]
          have hsl3:(N.map fun r=>D.list false (us r)).take at_.length=(N.take at_.length).map fun r=>D.list false (us r):=by rw[List.map_take]
          have hdl:(N.drop at_.length).length=i-at_.length:=by simp[hNl]
          have hS:=k2.shp
          rw[hN] at hS k3
          (try (simp -implicitDefEqProofs only[go_sem,hk',hmat,hun,hNl,hsl,hmi,hdl]));repeat' first|(with_reducible first|exact tI|refine aI ?_ ?_|intro _)|((first|with_reducible refine AN ?_ ?_<;>intro _)<;>try (simp -implicitDefEqProofs only[go_sem,hk',hmat,hun,hNl,hsl,hmi,hdl]))|simp (disch:=omega) only[Ap]|((with_reducible refine Dq ?_);refine⟨(_,_,_,_),rfl,?_,?_⟩)|((with_reducible refine Ad ?_);refine⟨(_,_,_),rfl,?_,?_⟩)|((with_reducible refine AZ ?_);refine⟨(_,_),rfl,?_,?_⟩)|((with_reducible refine Ae ?_);refine⟨_,rfl,?_,?_⟩)
          all_goals first|omega|(simp<;>omega)|skip
          refine AX (α:=Nat) (l0:=?l7) (m0:=?m7) (fun x=>[(147,.d (.int .i64 (x:Int)))]) (fun x=>[]) (fun x=>x<=i-at_.length/\∀q,q<x->DW N (at_.length+q) at_.length=0) (fun x=>i-at_.length-x) 0 ?h07 ?he7 ?he27 ?hI7 ?step7
          case h07=>(simp -implicitDefEqProofs only[go_sem];rfl)
          case he7=>rfl
          case he27=>rfl
          case' step7=>(rintro i7 hI7;try dsimp only at hI7)
          case' hI7=>try dsimp only
          · exact⟨by omega,fun q hq=>absurd hq (by omega)⟩
          · obtain⟨u1,u2⟩:=hI7
            by_cases h7:i7<i-at_.length
            · have h7':(i7:Int)<((i-at_.length:Nat):Int):=by omega
              have hw7:IntKind.i64.wrap ((i7:Int)+1)=((i7+1:Nat):Int):=by rw[Af _ (by omega)];omega
              have er:(N.drop at_.length)[i7]?.getD default=BV N (at_.length+i7):=by rw[List.getElem?_drop];rfl
              have lr7:=hS.row (at_.length+i7) (by omega)
              have ee7:(BV N (at_.length+i7))[at_.length]?.getD 0=DW N (at_.length+i7) at_.length:=rfl
              by_cases hz7:DW N (at_.length+i7) at_.length=0
              · (try (simp -implicitDefEqProofs only[go_sem,h7',hw7,hdl,er,lr7,ee7,hz7]));repeat' first|(with_reducible first|exact tI|refine aI ?_ ?_|intro _)|((first|with_reducible refine AN ?_ ?_<;>intro _)<;>try (simp -implicitDefEqProofs only[go_sem,h7',hw7,hdl,er,lr7,ee7,hz7]))|simp (disch:=omega) only[Ap]|((with_reducible refine Dq ?_);refine⟨(_,_,_,_),rfl,?_,?_⟩)|((with_reducible refine Ad ?_);refine⟨(_,_,_),rfl,?_,?_⟩)|((with_reducible refine AZ ?_);refine⟨(_,_),rfl,?_,?_⟩)|((with_reducible refine Ae ?_);refine⟨_,rfl,?_,?_⟩)
                all_goals first|omega|(simp<;>omega)|skip
                all_goals first
                  |(
                     rename_i q hq
                     rcases Nat.lt_succ_iff_lt_or_eq.1 hq with hq|rfl
                     · exact u2 q hq
                     · exact hz7)
                  |skip
              · have hso:J_ L i at_ s=none:=k2.endsN hm (show at_.length<=at_.length+i7 by omega) (by omega) (by rw[hN];exact hz7)
                rw[hso]
                (try (simp -implicitDefEqProofs only[go_sem,h7',hw7,hdl,er,lr7,ee7,hz7,MF]));repeat' first|(with_reducible first|exact tI|refine aI ?_ ?_|intro _)|((first|with_reducible refine AN ?_ ?_<;>intro _)<;>try (simp -implicitDefEqProofs only[go_sem,h7',hw7,hdl,er,lr7,ee7,hz7,MF]))|simp (disch:=omega) only[Ap]|((with_reducible refine Dq ?_);refine⟨(_,_,_,_),rfl,?_,?_⟩)|((with_reducible refine Ad ?_);refine⟨(_,_,_),rfl,?_,?_⟩)|((with_reducible refine AZ ?_);refine⟨(_,_),rfl,?_,?_⟩)|((with_reducible refine Ae ?_);refine⟨_,rfl,?_,?_⟩)
                all_goals first|omega|(simp<;>omega)|skip
                all_goals first|rfl|skip
            · have h7':¬(i7:Int)<((i-at_.length:Nat):Int):=by omega
              obtain⟨v,hv⟩:∃v,(N.take at_.length).map (fun r=>r[at_.length]?.getD 0)=v:=⟨_,rfl⟩
              have hvl:v.length=at_.length:=by rw[←hv];simp;omega
              have hva:∀q,q<at_.length->EG v q=DW N q at_.length:=fun q hq=>by
                have hqN:q<N.length:=by omega
                unfold EG
                rw[←hv,List.getElem?_map,List.getElem?_take_of_lt hq,List.getElem?_eq_getElem hqN]
                simp only[Option.map_some,Option.getD_some]
                unfold DW EG BV
                rw[List.getElem?_eq_getElem hqN,Option.getD_some]
              have hso:J_ L i at_ s=some v:=k2.ends hL hp hm v hvl (fun q hq=>by rw[hN,k3 q hq,QV];exact hva q hq) (fun q q1 q2=>by
                rw[hN]
                have:=u2 (q-at_.length) (by omega)
                rwa [show at_.length+(q-at_.length)=q by omega] at this)
              have c7:=Qx false false n2 (N.take at_.length) at_ at_.length rfl (by simp;omega) (fun q hq=>by
                have hq2:q<at_.length:=by simp at hq;omega
                rw[List.getElem?_take_of_lt hq2]
                have:=hS.row q (by omega)
                unfold BV at this
                omega)
              rw[hv] at c7
              have hte:(N.take at_.length).isEmpty=v.isEmpty:=by rw[←hv];cases N.take at_.length<;>rfl
              rw[hte] at c7
              rw[hso]
              (try (simp -implicitDefEqProofs only[go_sem,h7',hun,hNl,hmi,hsl3,ME]));repeat' first|(with_reducible first|exact tI|refine aI ?_ ?_|intro _)|((first|with_reducible refine AN ?_ ?_<;>intro _|(with_reducible refine isCall ?_);first|refine AG c7 ?_)<;>try (simp -implicitDefEqProofs only[go_sem,h7',hun,hNl,hmi,hsl3,ME]))|simp (disch:=omega) only[Ap]|((with_reducible refine Dq ?_);refine⟨(_,_,_,_),rfl,?_,?_⟩)|((with_reducible refine Ad ?_);refine⟨(_,_,_),rfl,?_,?_⟩)|((with_reducible refine AZ ?_);refine⟨(_,_),rfl,?_,?_⟩)|((with_reducible refine Ae ?_);refine⟨_,rfl,?_,?_⟩)
              all_goals first|omega|(simp<;>omega)|skip
              all_goals first|rfl|skip
end Go.Pw
end
section
open Go Go.Pw Go.Proofs
namespace Go.Pw
set_option maxRecDepth 100000
set_option maxHeartbeats 6400000
def gU (o:Option (List F)):D:=match o with
 |some v=>.tup [.list v.isEmpty (A4 (iv v)),.bool true]
 |none=>.tup [.list true [],.bool false]
def PF (L i:Nat):List F:=(List.range L).map fun j=>T8 L i j
def I2 (L P:Nat) (w:List F):List F:=(List.range P).map fun i=>E' w (PF L i)
theorem RR (L P:Nat) (w:List F):(I2 L P w).length=P:=by simp[I2]
theorem JF (L P:Nat) (w:List F) (i:Nat) (h:i<P):(I2 L P w)[i]?.getD 0=E' w (PF L i):=by simp[I2,h]
theorem NW (L i:Nat):(PF L i).length=L:=by simp[PF]
theorem Qy (L i j:Nat) (h:j<L):(PF L i)[j]?.getD 0=T8 L i j:=by simp[PF,h]
theorem ZI (w c:List F) (j:Nat) (hw:j<w.length) (hc:j<c.length):fa (E' (w.take j) (c.take j)) (fm (w[j]?.getD 0) (c[j]?.getD 0))=E' (w.take (j+1)) (c.take (j+1)):=by
 rw[←Bi w 0 j hw,←Bi c 0 j hc,OD]
 simp;omega
attribute [local congr] Bx A9 A_ Au Bz A0 A2 A1 Ar An Ai Ab Av Aj Ax BG BK BI BJ BH BL BD Ay Aw Al Az Am BB BT Ak BE BF BC A' BA B1
attribute [local irreducible] IntKind.wrap BM Option.getD and or
end Go.Pw
end
section
open Go Go.Pw Go.Proofs
namespace Go.Pw
set_option maxRecDepth 100000
set_option maxHeartbeats 3200000
theorem ZW (S:List F) (i n:Nat) (h:i<n) (hS:S.length=n):(S.take i++List.replicate (n-i) (0:F))[i]?.getD 0=0:=by
 rw[List.getElem?_append_right (by simp;omega)]
 simp only[List.length_take,List.getElem?_replicate]
 split<;>rfl
theorem ZV (S:List F) (i n:Nat) (h:i<n) (hS:S.length=n):(S.take i++List.replicate (n-i) (0:F)).set i (S[i]?.getD 0)=S.take (i+1)++List.replicate (n-(i+1)) 0:=by
 have h1:(S.take i).length=i:=by simp;omega
 rw[List.set_append_right _ _ (by omega),h1,Nat.sub_self,show n-i=(n-(i+1))+1 by omega,List.replicate_succ,List.set_cons_zero,←Bi S 0 i (by omega),List.append_assoc]
 rfl
theorem XZ (l:List F) (i:Nat) (h:i<l.length):l.set i (l[i]?.getD 0)=l:=by
 rw[List.getElem?_eq_getElem h];simp
theorem aE (l:List F) (i:Nat) (x:F) (h:i<l.length):(l.set i x)[i]?.getD 0=x:=by simp[h]
def EA:List F->List Nat->List F->List F
 |w,j::js,x::xs=>EA (w.set j x) js xs
 |w,_,_=>w
theorem MC:∀(at_:List Nat) (w xs:List F),(EA w at_ xs).length=w.length
 |[],w,xs=>by cases xs<;>rfl
 |j::js,w,[]=>rfl
 |j::js,w,x::xs=>by show (EA (w.set j x) js xs).length=_;rw[MC];simp
theorem Nb (j:Nat) (y:F):∀(at_:List Nat) (w xs:List F),at_.length=xs.length->EA w (at_++[j]) (xs++[y])=(EA w at_ xs).set j y
 |[],w,[],_=>rfl
 |k::js,w,z::xs,h=>by
  show EA (w.set k z) (js++[j]) (xs++[y])=_
  rw[Nb j y js (w.set k z) xs (by simpa using h)];rfl
theorem MB (w xs:List F):EA w [] xs=w:=by cases xs<;>rfl
theorem MD:∀(at_:List Nat) (w xs:List F) (j:Nat),j∉at_->(EA w at_ xs)[j]?.getD 0=w[j]?.getD 0
 |[],w,xs,j,_=>by rw[MB]
 |k::js,w,[],j,_=>rfl
 |k::js,w,x::xs,j,h=>by
  show (EA (w.set k x) js xs)[j]?.getD 0=_
  rw[MD js _ xs j (fun e=>h (by simp[e])),List.getElem?_set_ne (fun e=>h (by simp[e]))]
theorem RQ {α β:Type}(a:List α) (b:List β) (i:Nat) (h:a.length=b.length):(a.take i).length=(b.take i).length:=by simp[h]
attribute [local congr] Bx A9 A_ Au Bz A0 A2 A1 Ar An Ai Ab Av Aj Ax BG BK BI BJ BH BL BD Ay Aw Al Az Am BB BT Ak BE BF BC A' BA B1
attribute [local irreducible] IntKind.wrap BM Option.getD and or
theorem Ma (L P:Nat) (n1:Bool) (w:List F) (hL:L<=15) (hL1:1<=L) (hP:1<=P) (hP2:P<=15) (hw:w.length=L):DE E0 GJ [Qz L P,.list n1 (us w)] (.list false (us (I2 L P w))):=by
 obtain⟨S,hS⟩:∃S,I2 L P w=S:=⟨_,rfl⟩
 have hSl:S.length=P:=by rw[←hS];exact RR L P w
 rw[hS]
 refine AP I9 A5 (by simp) fun hwf=>?_
 rw[AU];unfold Fr
 (try (simp -implicitDefEqProofs only[go_sem,Bj,List.length_replicate]));repeat' first|(with_reducible first|exact tI|refine aI ?_ ?_|intro _)|((first|with_reducible refine AN ?_ ?_<;>intro _)<;>try (simp -implicitDefEqProofs only[go_sem,Bj,List.length_replicate]))|simp (disch:=omega) only[Ap]|((with_reducible refine AZ ?_);refine⟨(_,_),rfl,?_,?_⟩)|((with_reducible refine Ae ?_);refine⟨_,rfl,?_,?_⟩)
 all_goals first|omega|(simp<;>omega)|skip
 refine AX (α:=Nat) (l0:=?l1) (m0:=?m1) (fun x=>[(15,.d (.int .i64 (x:Int)))]) (fun x=>[(12,.row 173 1 false (us (S.take x++List.replicate (P-x) 0)))]) (fun x=>x<=P) (fun x=>P-x) 0 ?h01 ?he1 ?he21 ?hI1 ?step1
 case h01=>(simp -implicitDefEqProofs only[go_sem];rfl)
 case he1=>rfl
 case he21=>rfl
 case' step1=>(rintro i hI;try dsimp only at hI)
 case' hI1=>try dsimp only
 ·exact Nat.zero_le _
 ·have hbl:(S.take i++List.replicate (P-i) (0:F)).length=P:=by simp;omega
  by_cases h:i<P
  ·have h':(i:Int)<(P:Int):=by omega
   have hwi:IntKind.i64.wrap ((i:Int)+1)=((i+1:Nat):Int):=by rw[Af _ (by omega)];omega
   have hbg:=ZW S i P h hSl
   have hbs:=ZV S i P h hSl
   obtain⟨B,hB⟩:∃B,S.take i++List.replicate (P-i) (0:F)=B:=⟨_,rfl⟩
   rw[hB] at hbl hbg hbs ⊢
   have hB0:B.set i 0=B:=by have:=XZ B i (by omega);rwa [hbg] at this
   have hUR:us B=us (B.set i 0):=by rw[hB0]
   (try (simp -implicitDefEqProofs only[go_sem,h',Bj,hbl,List.length_replicate]));repeat' first|(with_reducible first|exact tI|refine aI ?_ ?_|intro _)|((first|with_reducible refine AN ?_ ?_<;>intro _)<;>try (simp -implicitDefEqProofs only[go_sem,h',Bj,hbl,List.length_replicate]))|simp (disch:=omega) only[Ap]|((with_reducible refine AZ ?_);refine⟨(_,_),rfl,?_,?_⟩)|((with_reducible refine Ae ?_);refine⟨_,rfl,?_,?_⟩)
   all_goals first|omega|(simp<;>omega)|skip
   rw[hUR]
   refine AX (α:=Nat×F) (l0:=?l2) (m0:=?m2) (fun x=>[(20,.d (.int .i64 (x.1:Int)))]) (fun x=>[(12,.row 173 1 false (us (B.set i x.2)))]) (fun x=>x.1<=L/\x.2=E' (w.take x.1) ((PF L i).take x.1)) (fun x=>L-x.1) (0,0) ?h02 ?he2 ?he22 ?hI2 ?step2
   case h02=>(simp -implicitDefEqProofs only[go_sem];rfl)
   case he2=>rfl
   case he22=>rfl
   case' step2=>(rintro⟨j,acc⟩ hI2;try dsimp only at hI2)
   case' hI2=>try dsimp only
   ·exact⟨by omega,rfl⟩
   ·obtain⟨q1,q2⟩:=hI2
    by_cases hj:j<L
    ·have hj':(j:Int)<(w.length:Int):=by omega
     have hwj:IntKind.i64.wrap ((j:Int)+1)=((j+1:Nat):Int):=by rw[Af _ (by omega)];omega
     have c1:=Gg L P i j (by omega) (by omega) hj
     have c2:=DV (w[j]?.getD 0) (gp (i*(L-1-j)))
     have hk:fa acc (fm (w[j]?.getD 0) (gp (i*(L-1-j))))=E' (w.take (j+1)) ((PF L i).take (j+1)):=by
      rw[q2,←ZI w (PF L i) j (by omega) (by rw[NW];omega),Qy L i j hj];rfl
     have hsg:(B.set i acc)[i]?.getD 0=acc:=aE B i acc (by omega)
     have hss:∀y,(B.set i acc).set i y=B.set i y:=fun y=>List.set_set ..
     rw[Bj] at c1
     (try (simp -implicitDefEqProofs only[go_sem,hj',hwj,hsg,hss,List.length_set,hbl,h]));repeat' first|(with_reducible first|exact tI|refine aI ?_ ?_|intro _)|((first|with_reducible refine AN ?_ ?_<;>intro _|(with_reducible refine isCall ?_);first|refine AG c1 ?_|refine AG c2 ?_)<;>try (simp -implicitDefEqProofs only[go_sem,hj',hwj,hsg,hss,List.length_set,hbl,h]))|simp (disch:=omega) only[Ap]|((with_reducible refine AZ ?_);refine⟨(_,_),rfl,?_,?_⟩)|((with_reducible refine Ae ?_);refine⟨_,rfl,?_,?_⟩)
     all_goals first|omega|(simp<;>omega)|skip
     all_goals first|exact hk|(simp at *;done)|(simp at *;omega)|skip
    ·have hj':¬(j:Int)<(w.length:Int):=by omega
     have hje:j=L:=by omega
     have hacc:acc=S[i]?.getD 0:=by
      rw[q2,hje,←hS,JF L P w i h,List.take_of_length_le (by omega),List.take_of_length_le (by rw[NW];omega)]
     rw[hacc]
     (try (simp -implicitDefEqProofs only[go_sem,hj',hwi,hbs]));repeat' first|(with_reducible first|exact tI|refine aI ?_ ?_|intro _)|((first|with_reducible refine AN ?_ ?_<;>intro _)<;>try (simp -implicitDefEqProofs only[go_sem,hj',hwi,hbs]))|simp (disch:=omega) only[Ap]|((with_reducible refine AZ ?_);refine⟨(_,_),rfl,?_,?_⟩)|((with_reducible refine Ae ?_);refine⟨_,rfl,?_,?_⟩)
     all_goals first|omega|(simp<;>omega)|skip
     all_goals first|rfl|omega|skip
  ·have h':¬(i:Int)<(P:Int):=by omega
   have hie:i=P:=by omega
   subst hie
   have hfin:S.take i++List.replicate (i-i) (0:F)=S:=by rw[List.take_of_length_le (by omega)];simp
   rw[hfin]
   (try (simp -implicitDefEqProofs only[go_sem,h',List.length_replicate,hSl]));repeat' first|(with_reducible first|exact tI|refine aI ?_ ?_|intro _)|((first|with_reducible refine AN ?_ ?_<;>intro _)<;>try (simp -implicitDefEqProofs only[go_sem,h',List.length_replicate,hSl]))|simp (disch:=omega) only[Ap]|((with_reducible refine AZ ?_);refine⟨(_,_),rfl,?_,?_⟩)|((with_reducible refine Ae ?_);refine⟨_,rfl,?_,?_⟩)
   all_goals first|omega|(simp<;>omega)|skip
   all_goals first|rfl|skip
end Go.Pw
end
section
open Go Go.Pw Go.Proofs
namespace Go.Pw
set_option maxRecDepth 100000
set_option maxHeartbeats 3200000
def vv (b:Bool) (o:List F) (fnd:Bool):List (Nat×Nat×AW):=[(900004,0,.cells [.d (.list b (us o))]),(901004,0,.cells [.d (.bool fnd)])]
def vh (b:Bool) (o:List F) (fnd:Bool) (r:Option (List F)):List (Nat×Nat×AW):=match r with|some z=>vv false z true|none=>vv b o fnd
theorem H6 (b:Bool) (o:List F) (fnd:Bool) (z:List F):vh b o fnd (some z)=vv false z true:=rfl
theorem H7 (b:Bool) (o:List F) (fnd:Bool):vh b o fnd none=vv b o fnd:=rfl
def GP (w:List F) (at_:List Nat) (v:List F):List F:=List.zipWith (fun j x=>fa (w[j]?.getD 0) x) at_ v
theorem Oj (w:List F) (at_:List Nat) (v:List F) (h:at_.length=v.length):(GP w at_ v).length=at_.length:=by simp[GP,h]
theorem Zg (w:List F) (at_:List Nat) (v:List F) (i:Nat) (h:i<at_.length) (hl:at_.length=v.length):(GP w at_ v)[i]?.getD 0=fa (w[at_[i]?.getD 0]?.getD 0) (v[i]?.getD 0):=by
 unfold GP
 rw[List.getElem?_zipWith,List.getElem?_eq_getElem h,List.getElem?_eq_getElem (by omega)];rfl
noncomputable def hit (L P:Nat) (w:List F) (mk:List Nat) (l:List Nat):Option (List F) :=
 (J_ L P (mk++l) (I2 L P w)).map fun v=>EA w (mk++l) (GP w (mk++l) v)
theorem Tc (l:List Nat) (i:Nat) (h:i<l.length) (hn:l.Nodup):l[i]?.getD 0∉l.take i:=by
 intro hm
 rw[Up _ _ h] at hm
 obtain⟨j,hj,he⟩:=List.getElem_of_mem hm
 have hj2:j<i:=by simp at hj;omega
 rw[List.getElem_take] at he
 have:=(List.getElem_inj hn).1 he
 omega
attribute [local congr] Bx A9 A_ Au Bz A0 A2 A1 Ar An Ai Ab Av Aj Ax BG BK BI BJ BH BL BD Ay Aw Al Az Am BB BT Ak BE BF BC A' BA B1
attribute [local irreducible] IntKind.wrap BM Option.getD and or
theorem Qt (L P:Nat) (n1 n2 n3 b fnd:Bool) (o w:List F) (mk l:List Nat) (hL:L<=15) (hL1:1<=L) (hP:1<=P) (hP2:P<=15) (hw:w.length=L) (hp:Wz L (mk++l)) (hm:(mk++l).length<=P) (hn3:n3=false) :
  HI E0 Ck (vv b o fnd) [.d (.list n1 (A4 (ni l))),.d (.ptr [.list n2 (A4 (ni mk))]),.d (.ptr [.int .i64 L,.int .i64 P]),.d (.ptr [.list false (us (I2 L P w))]),.d (.ptr [.list n3 (us w)]),.ptr 900004 0 0,.ptr 901004 0 0]
   (vh b o fnd (hit L P w mk l)) (.d (.bool (hit L P w mk l).isNone)):=by
 subst hn3
 obtain⟨S,hS⟩:∃S,I2 L P w=S:=⟨_,rfl⟩
 have hSl:S.length=P:=by rw[←hS];exact RR L P w
 have c1:=Ov n2 n1 (ni mk) (ni l) (by rw[Fc];simp at hm;omega) (by rw[Fc];simp at hm;omega)
 rw[YG] at c1
 obtain⟨A,hA⟩:∃A,mk++l=A:=⟨_,rfl⟩
 have c2:=fun nl=>L0 L P false nl S A hL hP hP2 hSl (by rw[←hA];exact hp) (by rw[←hA];exact hm)
 rw[hA] at c1 hp hm
 unfold hit
 rw[hS,hA]
 unfold vh vv
 refine C4 Gx A5 (by simp) (by cases J_ L P A S<;>simp[MN,B6,Dv,AW.isHist]) (by cases J_ L P A S<;>simp[EF]) fun hwf hwo=>?_
 rw[D8];unfold Ej
 cases hs:J_ L P A S with
 |none =>
  rw[hs,MF,Bj] at c2
  simp only[Option.map_none,Option.isNone_none]
  (try (simp -implicitDefEqProofs only[go_sem]));repeat' first|(with_reducible first|exact tI|refine aI ?_ ?_|intro _)|((first|with_reducible refine AN ?_ ?_<;>intro _|(with_reducible refine isCall ?_);first|refine AG c1 ?_|refine AG (c2 _) ?_)<;>try (simp -implicitDefEqProofs only[go_sem]))|simp (disch:=omega) only[Ap]|((with_reducible refine Ae ?_);refine⟨_,rfl,?_,?_⟩)
  all_goals first|omega|(simp<;>omega)|skip
  all_goals first|rfl|skip
 |some v =>
  rw[hs,ME,Bj] at c2
  simp only[Option.map_some,Option.isNone_some]
  have hvl:=(PU hs).1
  have c3:=HT false w (by omega) (by omega) rfl
  (try (simp -implicitDefEqProofs only[go_sem]));repeat' first|(with_reducible first|exact tI|refine aI ?_ ?_|intro _)|((first|with_reducible refine AN ?_ ?_<;>intro _|(with_reducible refine isCall ?_);first|refine AG c1 ?_|refine AG (c2 _) ?_|(refine D_ ([]) ([((7,1),(27,1))]) (c3) (by repeat' first|exact True.intro|exact rfl|refine And.intro ?_ ?_) (by simp[Handed,DG.get,AW.ren,AV.ren,AV.ren.renL,AI.get,Bl,Bu,DR,AI.reach,AV.sites,AV.sites.sitesL,AI.osites]) (by simp[B0,EF,B6,DG.get,DR,Dv,B8]) (by rfl) (by simp only[Db,DG.get,AW.ren,AV.ren,AV.ren.renL,and_self,and_true,true_and,if_true,reduceIte];rfl) ?_))<;>try (simp -implicitDefEqProofs only[go_sem]))|simp (disch:=omega) only[Ap]|((with_reducible refine Ae ?_);refine⟨_,rfl,?_,?_⟩)
  all_goals first|omega|(simp<;>omega)|skip
  refine AX (α:=Nat) (l0:=?l1) (m0:=?m1) (fun x=>[(30,.d (.int .i64 (x:Int)))]) (fun x=>[(27,.row 173 1 false (us (EA w (A.take x) ((GP w A v).take x))))]) (fun x=>x<=A.length) (fun x=>A.length-x) 0 ?h01 ?he1 ?he21 ?hI1 ?step1
  case h01=>(simp -implicitDefEqProofs only[go_sem];rfl)
  case he1=>rfl
  case he21=>rfl
  case' step1=>(rintro i hI;try dsimp only at hI)
  case' hI1=>try dsimp only
  ·exact Nat.zero_le _
  ·have hW:=MC (A.take i) w ((GP w A v).take i)
   have hYl:=Oj w A v hvl.symm
   by_cases h:i<A.length
   ·have h':(i:Int)<(A.length:Int):=by omega
    have hwi:IntKind.i64.wrap ((i:Int)+1)=((i+1:Nat):Int):=by rw[Af _ (by omega)];omega
    have hj:=hp.lt (A[i]?.getD 0) (by rw[Up _ _ h];exact List.getElem_mem h)
    have hg:(EA w (A.take i) ((GP w A v).take i))[A[i]?.getD 0]?.getD 0=w[A[i]?.getD 0]?.getD 0:=MD _ _ _ _ (Tc A i h hp.nd)
    have hk:(EA w (A.take i) ((GP w A v).take i)).set (A[i]?.getD 0) (fa (w[A[i]?.getD 0]?.getD 0) (v[i]?.getD 0))=EA w (A.take (i+1)) ((GP w A v).take (i+1)):=by
     rw[←Zg w A v i h hvl.symm,←Nb _ _ _ _ _ (RQ A _ i hYl.symm),Bi A 0 i h,Bi _ 0 i (by omega)]
    have hi2:i<v.length:=by omega
    have hj2:A[i]?.getD 0<w.length:=by omega
    (try (simp -implicitDefEqProofs only[go_sem,h',hwi,hW,hj2,hg,hk,hi2]));repeat' first|(with_reducible first|exact tI|refine aI ?_ ?_|intro _)|((first|with_reducible refine AN ?_ ?_<;>intro _)<;>try (simp -implicitDefEqProofs only[go_sem,h',hwi,hW,hj2,hg,hk,hi2]))|simp (disch:=omega) only[Ap]|((with_reducible refine Ae ?_);refine⟨_,rfl,?_,?_⟩)
    all_goals first|omega|(simp<;>omega)|skip
    all_goals first|rfl|skip
   ·have h':¬(i:Int)<(A.length:Int):=by omega
    have hie:i=A.length:=by omega
    have hfin:EA w (A.take i) ((GP w A v).take i)=EA w A (GP w A v):=by rw[List.take_of_length_le (by omega),List.take_of_length_le (by omega)]
    rw[hfin]
    (try (simp -implicitDefEqProofs only[go_sem,h']));repeat' first|(with_reducible first|exact tI|refine aI ?_ ?_|intro _)|((first|with_reducible refine AN ?_ ?_<;>intro _)<;>try (simp -implicitDefEqProofs only[go_sem,h']))|simp (disch:=omega) only[Ap]|((with_reducible refine Ae ?_);refine⟨_,rfl,?_,?_⟩)
    all_goals first|omega|(simp<;>omega)|skip
    all_goals first|rfl|skip
end Go.Pw
end

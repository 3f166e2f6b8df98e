/- A part of the proof. -/
import Derived.Test.YtibkjeolahobbaaGreatDoorPgCorrectLin
set_option linter.all false
open Go Go.Pw Go.Proofs
namespace Go.Pw
set_option maxRecDepth 100000
set_option maxHeartbeats 6400000
def oG (o:Option (List F)):D:=match o with
 |some v=>.tup [.list v.isEmpty (us v),.bool true]
 |none=>.tup [.list true [],.bool false]
theorem Pb (v:List F):oG (some v)=.tup [.list v.isEmpty (us v),.bool true]:=rfl
theorem Pc:oG none=.tup [.list true [],.bool false]:=rfl
theorem Bb {α:Type}(w:List α) (d:α) (i:Nat) (h:i<w.length):w.take i++[w[i]?.getD d]=w.take (i+1):=by
 rw[List.take_add_one,List.getElem?_eq_getElem h];rfl
theorem SU (l:List Nat) (i:Nat) (h:i<l.length):l[i]?.getD 0=l[i]:=by rw[List.getElem?_eq_getElem h];rfl
attribute [local congr] Bm A' BA Au Bn Az A1 A0 Ar Al Af Aa Aw Ag Ax BM BQ BO BP BN BR BG Aj Ay Ak BE BX Ai BK BL BF BH BJ BI BC BD A_ Bp BB Av Ah
attribute [local irreducible] IntKind.wrap A3 Option.getD and or
theorem O6 (L P:Nat) (n1 n2:Bool) (s:List F) (at_:List Nat) (hL:L<=15) (hP:1<=P) (hP2:P<=15) (hs:s.length=P) (hp:YZ L at_) (hm:at_.length<=P) :
    CA E0 Gy [QM L P,.list n1 (us s),.list n2 (Ab (ni at_))] (oG (HN L P at_ s)):=by
  have el:(K4 L P at_ s).length=P:=(MT L P at_ s).len
  refine AL J_ An (by simp) fun hwf=>?_
  rw[AR];unfold GJ
  (try (simp -implicitDefEqProofs only[go_sem,Bc]));repeat' first|(with_reducible first|exact tI|refine aI ?_ ?_|intro _)|((first|with_reducible refine AK ?_ ?_<;>intro _)<;>try (simp -implicitDefEqProofs only[go_sem,Bc]))|simp (disch:=omega) only[Ae]|((with_reducible refine Bf ?_);refine⟨(_,_,_,_),rfl,?_,?_⟩)|((with_reducible refine Ao ?_);refine⟨(_,_,_),rfl,?_,?_⟩)|((with_reducible refine Ap ?_);refine⟨(_,_),rfl,?_,?_⟩)|((with_reducible refine Ad ?_);refine⟨_,rfl,?_,?_⟩)
  refine AX (α:=Nat×Bool×(List Nat)×(List (List F))) (l0:=?l1) (m0:=?m1) (fun x=>[(25,.d (.int .i64 (x.1:Int)))]) (fun x=>[(50,.mat 152 135 x.2.1 x.2.2.1 (EZ x.2.2.2))]) (fun x=>x.1<=P/\x.2.2.2=(K4 L P at_ s).take x.1/\x.2.2.1=List.range x.1/\x.2.1=decide (x.1=0)) (fun x=>P-x.1) (0,true,[],[]) ?h01 ?he1 ?he21 ?hI1 ?step1
  case h01=>(simp -implicitDefEqProofs only[go_sem];rfl)
  case he1=>rfl
  case he21=>rfl
  case' step1=>(rintro⟨i,nl,ix,R⟩ hI;try dsimp only at hI)
  case' hI1=>try dsimp only
  · exact⟨by omega,by simp,rfl,rfl⟩
  · obtain⟨h1,h2,h3,h4⟩:=hI
    have hR:R.length=i:=by rw[h2];simp;omega
    by_cases h:i<P
    · have h':(i:Int)<(s.length:Int):=by omega
      have hw:IntKind.i64.wrap ((i:Int)+1)=((i+1:Nat):Int):=by rw[AZ _ (by omega)];omega
      (try (simp -implicitDefEqProofs only[go_sem,h',Bc]));repeat' first|(with_reducible first|exact tI|refine aI ?_ ?_|intro _)|((first|with_reducible refine AK ?_ ?_<;>intro _)<;>try (simp -implicitDefEqProofs only[go_sem,h',Bc]))|simp (disch:=omega) only[Ae]|((with_reducible refine Bf ?_);refine⟨(_,_,_,_),rfl,?_,?_⟩)|((with_reducible refine Ao ?_);refine⟨(_,_,_),rfl,?_,?_⟩)|((with_reducible refine Ap ?_);refine⟨(_,_),rfl,?_,?_⟩)|((with_reducible refine Ad ?_);refine⟨_,rfl,?_,?_⟩)
      all_goals first|omega|(simp<;>omega)|skip
      refine AX (α:=Nat×Bool×(List F)) (l0:=?l2) (m0:=?m2) (fun x=>[(32,.d (.int .i64 (x.1:Int)))]) (fun x=>[(42,.row 135 1 x.2.1 (us x.2.2))]) (fun x=>x.1<=at_.length/\x.2.2=(at_.take x.1).map (fun q=>WN L i q)/\x.2.1=x.2.2.isEmpty) (fun x=>at_.length-x.1) (0,true,[]) ?h02 ?he2 ?he22 ?hI2 ?step2
      case h02=>(simp -implicitDefEqProofs only[go_sem];rfl)
      case he2=>rfl
      case he22=>rfl
      case' step2=>(rintro⟨j,b,r⟩ hI2;try dsimp only at hI2)
      case' hI2=>try dsimp only
      · exact⟨by omega,rfl,rfl⟩
      · obtain⟨q1,q2,q3⟩:=hI2
        have hrl:r.length=j:=by rw[q2];simp;omega
        by_cases hj:j<at_.length
        · have hj':(j:Int)<(at_.length:Int):=by omega
          have hwj:IntKind.i64.wrap ((j:Int)+1)=((j+1:Nat):Int):=by rw[AZ _ (by omega)];omega
          have hlt:=hp.lt (at_[j]?.getD 0) (by rw[SU _ _ hj];exact List.getElem_mem hj)
          have c1:=Hu L P i (at_[j]?.getD 0) (by omega) (by omega) hlt
          have hk:r++[WN L i (at_[j]?.getD 0)]=(at_.take (j+1)).map (fun q=>WN L i q):=by
            rw[q2,←Bb at_ 0 j hj];simp
          rw[Bc] at c1
          (try (simp -implicitDefEqProofs only[go_sem,hj',hwj]));repeat' first|(with_reducible first|exact tI|refine aI ?_ ?_|intro _)|((first|with_reducible refine AK ?_ ?_<;>intro _|(with_reducible refine isCall ?_);first|refine AE c1 ?_)<;>try (simp -implicitDefEqProofs only[go_sem,hj',hwj]))|simp (disch:=omega) only[Ae]|((with_reducible refine Bf ?_);refine⟨(_,_,_,_),rfl,?_,?_⟩)|((with_reducible refine Ao ?_);refine⟨(_,_,_),rfl,?_,?_⟩)|((with_reducible refine Ap ?_);refine⟨(_,_),rfl,?_,?_⟩)|((with_reducible refine Ad ?_);refine⟨_,rfl,?_,?_⟩)
          all_goals first|omega|(simp<;>omega)|skip
          all_goals first|exact hk|(exact(Le _ _).symm)|(simp at *;done)|(simp at *;omega)|skip
        · have hj':¬(j:Int)<(at_.length:Int):=by omega
          have hjj:j=at_.length:=by omega
          have hrow:r++[s[i]?.getD 0]=A4 (K4 L P at_ s) i:=by
            rw[R9 _ _ _ _ _ h,q2,hjj,List.take_length];rfl
          have hnx:R++[A4 (K4 L P at_ s) i]=(K4 L P at_ s).take (i+1):=by
            rw[h2];exact Bb _ _ _ (by omega)
          have hix:ix++[R.length]=List.range (i+1):=by rw[h3,hR,List.range_succ]
          have hil:ix.length=i:=by rw[h3];simp
          (try (simp -implicitDefEqProofs only[go_sem,hj',hw,hrow,hnx,hix]));repeat' first|(with_reducible first|exact tI|refine aI ?_ ?_|intro _)|((first|with_reducible refine AK ?_ ?_<;>intro _)<;>try (simp -implicitDefEqProofs only[go_sem,hj',hw,hrow,hnx,hix]))|simp (disch:=omega) only[Ae]|((with_reducible refine Bf ?_);refine⟨(_,_,_,_),rfl,?_,?_⟩)|((with_reducible refine Ao ?_);refine⟨(_,_,_),rfl,?_,?_⟩)|((with_reducible refine Ap ?_);refine⟨(_,_),rfl,?_,?_⟩)|((with_reducible refine Ad ?_);refine⟨_,rfl,?_,?_⟩)
          all_goals first|omega|(simp<;>omega)|skip
          all_goals first|rfl|exact List.range_succ.symm|(simp at *;done)|(simp at *;omega)|skip
    · have h':¬(i:Int)<(s.length:Int):=by omega
      have hi:i=P:=by omega
      subst hi
      have e2:R=K4 L i at_ s:=by rw[h2,List.take_of_length_le (by omega)]
      have e4:nl=false:=by rw[h4];simp;omega
      subst e4
      clear h4
      subst e2 h3
      (try (simp -implicitDefEqProofs only[go_sem,h',Bc]));repeat' first|(with_reducible first|exact tI|refine aI ?_ ?_|intro _)|((first|with_reducible refine AK ?_ ?_<;>intro _)<;>try (simp -implicitDefEqProofs only[go_sem,h',Bc]))|simp (disch:=omega) only[Ae]|((with_reducible refine Bf ?_);refine⟨(_,_,_,_),rfl,?_,?_⟩)|((with_reducible refine Ao ?_);refine⟨(_,_,_),rfl,?_,?_⟩)|((with_reducible refine Ap ?_);refine⟨(_,_),rfl,?_,?_⟩)|((with_reducible refine Ad ?_);refine⟨_,rfl,?_,?_⟩)
      all_goals first|omega|(simp<;>omega)|skip
      refine AX (α:=Nat×(List Nat)×(List (List F))) (l0:=?l3) (m0:=?m3) (fun x=>[(54,.d (.int .i64 (x.1:Int)))]) (fun x=>[(50,.mat 152 135 false x.2.1 (EZ x.2.2))]) (fun x=>x.1<=at_.length/\Ur L i at_ s x.2.1 x.2.2 x.1/\(∀j,j<x.1->CV (lm x.2.1 x.2.2) j j=1)) (fun x=>at_.length-x.1) (0,(List.range i),(K4 L i at_ s)) ?h03 ?he3 ?he23 ?hI3 ?step3
      case h03=>(simp -implicitDefEqProofs only[go_sem];rfl)
      case he3=>rfl
      case he23=>rfl
      case' step3=>(rintro⟨k,ix,R⟩ hI3;try dsimp only at hI3)
      case' hI3=>try dsimp only
      · exact⟨by omega,Ur.start,fun j hj=>absurd hj (by omega)⟩
      · obtain⟨k1,k2,k3⟩:=hI3
        have li:=k2.pq.li
        have lr:=k2.pq.lr
        by_cases hk:k<at_.length
        · have hk':(k:Int)<(at_.length:Int):=by omega
          have hwk:IntKind.i64.wrap ((k:Int)+1)=((k+1:Nat):Int):=by rw[AZ _ (by omega)];omega
          (try (simp -implicitDefEqProofs only[go_sem,hk']));repeat' first|(with_reducible first|exact tI|refine aI ?_ ?_|intro _)|((first|with_reducible refine AK ?_ ?_<;>intro _)<;>try (simp -implicitDefEqProofs only[go_sem,hk']))|simp (disch:=omega) only[Ae]|((with_reducible refine Bf ?_);refine⟨(_,_,_,_),rfl,?_,?_⟩)|((with_reducible refine Ao ?_);refine⟨(_,_,_),rfl,?_,?_⟩)|((with_reducible refine Ap ?_);refine⟨(_,_),rfl,?_,?_⟩)|((with_reducible refine Ad ?_);refine⟨_,rfl,?_,?_⟩)
          all_goals first|omega|(simp<;>omega)|skip
          refine AX (α:=Nat) (l0:=?l4) (m0:=?m4) (fun x=>[(15,.d (.int .i64 (x:Int)))]) (fun x=>[]) (fun x=>k<=x/\x<=i/\∀q,k<=q->q<x->CV (lm ix R) q k=0) (fun x=>i-x) k ?h04 ?he4 ?he24 ?hI4 ?step4
          case h04=>(simp -implicitDefEqProofs only[go_sem];rfl)
          case he4=>rfl
          case he24=>rfl
          case' step4=>(rintro f hI4;try dsimp only at hI4)
          case' hI4=>try dsimp only
          · exact⟨by omega,by omega,fun q _ _=>by omega⟩
          · obtain⟨f1,f2,f3⟩:=hI4
            by_cases hf:f<i
            · have hf':(f:Int)<(ix.length:Int):=by omega
              have hwf1:IntKind.i64.wrap ((f:Int)+1)=((f+1:Nat):Int):=by rw[AZ _ (by omega)];omega
              have a1:ix[f]?.getD 0<R.length:=by rw[lr];exact k2.pq.ix_lt hf
              have rl:(R[ix[f]?.getD 0]?.getD []).length=at_.length+1:=k2.rlen hf
              have ee:(R[ix[f]?.getD 0]?.getD [])[k]?.getD 0=CV (lm ix R) f k:=by
                show _=EY (A4 (lm ix R) f) k
                rw[D_ k2.pq hf];rfl
              by_cases hz:CV (lm ix R) f k=0
              · (try (simp -implicitDefEqProofs only[go_sem,hf',hwf1,ee,hz]));repeat' first|(with_reducible first|exact tI|refine aI ?_ ?_|intro _)|((first|with_reducible refine AK ?_ ?_<;>intro _)<;>try (simp -implicitDefEqProofs only[go_sem,hf',hwf1,ee,hz]))|simp (disch:=omega) only[Ae]|((with_reducible refine Bf ?_);refine⟨(_,_,_,_),rfl,?_,?_⟩)|((with_reducible refine Ao ?_);refine⟨(_,_,_),rfl,?_,?_⟩)|((with_reducible refine Ap ?_);refine⟨(_,_),rfl,?_,?_⟩)|((with_reducible refine Ad ?_);refine⟨_,rfl,?_,?_⟩)
                all_goals first|omega|(simp<;>omega)|skip
                all_goals first
                  |(
                     rename_i q q1 q2
                     rcases Nat.lt_succ_iff_lt_or_eq.1 q2 with q2|rfl
                     · exact f3 q q1 q2
                     · exact hz)
                  |skip
              · have hfe:¬(f:Int)=(ix.length:Int):=by omega
                obtain⟨p1,p2,p3⟩:=bA k2.pq (show k<i by omega) hf
                obtain⟨I,hIe⟩:∃I,(ix.set k (ix[f]?.getD 0)).set f (ix[k]?.getD 0)=I:=⟨_,rfl⟩
                rw[show GC ix f=ix[f]?.getD 0 from rfl,show GC ix k=ix[k]?.getD 0 from rfl,hIe] at p1 p2 p3
                obtain⟨a,hae⟩:∃a,ix[f]?.getD 0=a:=⟨_,rfl⟩
                rw[hae] at a1 rl ee p3 hIe
                have hIk:I[k]?.getD 0=a:=p3
                have hIl:=p1.li
                have a0:ix[k]?.getD 0<R.length:=by rw[lr];exact k2.pq.ix_lt (show k<i by omega)
                obtain⟨ra,hra⟩:∃ra,R[a]?.getD []=ra:=⟨_,rfl⟩
                rw[hra] at rl ee
                have hkr:k<ra.length:=by omega
                obtain⟨pv,hx⟩:∃pv,CV (lm ix R) f k=pv:=⟨_,rfl⟩
                have c1:=Mj pv
                have hz0:=hz
                rw[hx] at hz ee
                have hif:k<ix.length:=by omega
                have hif2:f<ix.length:=by omega
                have hraf:∀b:F,(H7 ra b).length=ra.length:=fun b=>W6 ra b
                have hRR:R.set a ra=R:=by rw[←hra];exact Pf a1
                have hUR:EZ R=EZ (R.set a ra):=by rw[hRR]
                have hkI:k<I.length:=by omega
                (try (simp -implicitDefEqProofs only[go_sem,hf',ee,hz,hfe,hae,hra,hIe,hIk,a0,a1,hkr,hif,hif2,hkI,rl,List.length_set]));repeat' first|(with_reducible first|exact tI|refine aI ?_ ?_|intro _)|((first|with_reducible refine AK ?_ ?_<;>intro _|(with_reducible refine isCall ?_);first|refine AE c1 ?_)<;>try (simp -implicitDefEqProofs only[go_sem,hf',ee,hz,hfe,hae,hra,hIe,hIk,a0,a1,hkr,hif,hif2,hkI,rl,List.length_set]))|simp (disch:=omega) only[Ae]|((with_reducible refine Bf ?_);refine⟨(_,_,_,_),rfl,?_,?_⟩)|((with_reducible refine Ao ?_);refine⟨(_,_,_),rfl,?_,?_⟩)|((with_reducible refine Ap ?_);refine⟨(_,_),rfl,?_,?_⟩)|((with_reducible refine Ad ?_);refine⟨_,rfl,?_,?_⟩)
                all_goals first|omega|(simp<;>omega)|skip
                rw[hUR]
                refine AX (α:=Nat×(List F)) (l0:=?l5) (m0:=?m5) (fun x=>[(105,.d (.int .i64 (x.1:Int)))]) (fun x=>[(50,.mat 152 135 false I (EZ (R.set a x.2)))]) (fun x=>x.1<=at_.length+1/\x.2=(H7 ra (fi pv)).take x.1++ra.drop x.1) (fun x=>at_.length+1-x.1) (0,ra) ?h05 ?he5 ?he25 ?hI5 ?step5
                case h05=>(simp -implicitDefEqProofs only[go_sem];rfl)
                case he5=>rfl
                case he25=>rfl
                case' step5=>(rintro⟨i5,r⟩ hI5;try dsimp only at hI5)
                case' hI5=>try dsimp only
                · exact⟨by omega,by simp⟩
                · obtain⟨r1,r2⟩:=hI5
                  have hr:r.length=at_.length+1:=by rw[r2,N6 (hraf _) i5 (by rw[hraf];omega),hraf];exact rl
                  by_cases h5:i5<at_.length+1
                  · have h5':(i5:Int)<((at_.length+1:Nat):Int):=by omega
                    have hw5:IntKind.i64.wrap ((i5:Int)+1)=((i5+1:Nat):Int):=by rw[AZ _ (by omega)];omega
                    have c5:=Dl (ra[i5]?.getD 0) (fi pv)
                    have g1:r[i5]?.getD 0=ra[i5]?.getD 0:=by rw[r2];exact N7 (hraf _) i5 (by rw[hraf];omega)
                    have g2:r.set i5 (fm (ra[i5]?.getD 0) (fi pv))=(H7 ra (fi pv)).take (i5+1)++ra.drop (i5+1):=by
                      rw[r2,←show (H7 ra (fi pv))[i5]?.getD 0=fm (ra[i5]?.getD 0) (fi pv) from TG ra (fi pv) i5]
                      exact N5 (hraf _) i5 (by rw[hraf];omega)
                    (try (simp -implicitDefEqProofs only[go_sem,h5',hw5,g1,W2 a1,Wy,hIk,hkI,List.length_set]));repeat' first|(with_reducible first|exact tI|refine aI ?_ ?_|intro _)|((first|with_reducible refine AK ?_ ?_<;>intro _|(with_reducible refine isCall ?_);first|refine AE c5 ?_)<;>try (simp -implicitDefEqProofs only[go_sem,h5',hw5,g1,W2 a1,Wy,hIk,hkI,List.length_set]))|simp (disch:=omega) only[Ae]|((with_reducible refine Bf ?_);refine⟨(_,_,_,_),rfl,?_,?_⟩)|((with_reducible refine Ao ?_);refine⟨(_,_,_),rfl,?_,?_⟩)|((with_reducible refine Ap ?_);refine⟨(_,_),rfl,?_,?_⟩)|((with_reducible refine Ad ?_);refine⟨_,rfl,?_,?_⟩)
                    all_goals first|omega|(simp<;>omega)|skip
                    all_goals first|exact g2|skip
                  · have h5':¬(i5:Int)<((at_.length+1:Nat):Int):=by omega
                    have hre:r=H7 ra (fi pv):=by
                      have:i5=(H7 ra (fi pv)).length:=by rw[hraf];omega
                      rw[r2,this];exact N8 (hraf _)
                    subst hre
                    clear r2
                    obtain⟨R2,hR2⟩:∃R2,R.set a (H7 ra (fi pv))=R2:=⟨_,rfl⟩
                    rw[hR2]
                    have pq2:PQ i I R2:=by rw[←hR2];exact p1.set _ _
                    have hM2:lm I R2=(swp (lm ix R) k f).set k (H7 (A4 (swp (lm ix R) k f) k) (fi (CV (lm ix R) f k))):=by
                      have e1:=VX p1 (show k<i by omega) (H7 ra (fi pv))
                      rw[p3,hR2,p2] at e1
                      rw[e1,hx]
                      have e2:A4 (swp (lm ix R) k f) k=ra:=by
                        rw[←p2,D_ p1 (show k<i by omega),p3];exact hra
                      rw[e2]
                    obtain⟨M2,hMe⟩:∃M2,lm I R2=M2:=⟨_,rfl⟩
                    have hl2:M2.length=i:=by rw[←hMe,G5];exact hIl
                    have hS2:Ri M2 i (at_.length+1):=by rw[←hMe,hM2];exact(k2.shp.swp (show k<i by omega) hf).scl (show k<i by omega) _
                    (try (simp -implicitDefEqProofs only[go_sem,h5']));repeat' first|(with_reducible first|exact tI|refine aI ?_ ?_|intro _)|((first|with_reducible refine AK ?_ ?_<;>intro _)<;>try (simp -implicitDefEqProofs only[go_sem,h5']))|simp (disch:=omega) only[Ae]|((with_reducible refine Bf ?_);refine⟨(_,_,_,_),rfl,?_,?_⟩)|((with_reducible refine Ao ?_);refine⟨(_,_,_),rfl,?_,?_⟩)|((with_reducible refine Ap ?_);refine⟨(_,_),rfl,?_,?_⟩)|((with_reducible refine Ad ?_);refine⟨_,rfl,?_,?_⟩)
                    all_goals first|omega|(simp<;>omega)|skip
                    refine AX (α:=Nat×(List (List F))) (l0:=?l6) (m0:=?m6) (fun x=>[(122,.d (.int .i64 (x.1:Int)))]) (fun x=>[(50,.mat 152 135 false I (EZ x.2))]) (fun x=>x.1<=i/\PQ i I x.2/\lm I x.2=(Bg (fun y _=>y) M2 k).take x.1++M2.drop x.1) (fun x=>i-x.1) (0,R2) ?h06 ?he6 ?he26 ?hI6 ?step6
                    case h06=>(simp -implicitDefEqProofs only[go_sem];rfl)
                    case he6=>rfl
                    case he26=>rfl
                    case' step6=>(rintro⟨i6,Q⟩ hI6;try dsimp only at hI6)
                    case' hI6=>try dsimp only
                    · exact⟨by omega,pq2,by rw[hMe];simp⟩
                    · obtain⟨t1,t2,t3⟩:=hI6
                      by_cases h6:i6<i
                      · have h6':(i6:Int)<(I.length:Int):=by omega
                        have hw6:IntKind.i64.wrap ((i6:Int)+1)=((i6+1:Nat):Int):=by rw[AZ _ (by omega)];omega
                        by_cases hik:i6=k
                        · subst hik
                          have hnx:lm I Q=(Bg (fun y _=>y) M2 i6).take (i6+1)++M2.drop (i6+1):=by rw[t3];exact SF (by omega)
                          (try (simp -implicitDefEqProofs only[go_sem,h6',hw6]));repeat' first|(with_reducible first|exact tI|refine aI ?_ ?_|intro _)|((first|with_reducible refine AK ?_ ?_<;>intro _)<;>try (simp -implicitDefEqProofs only[go_sem,h6',hw6]))|simp (disch:=omega) only[Ae]|((with_reducible refine Bf ?_);refine⟨(_,_,_,_),rfl,?_,?_⟩)|((with_reducible refine Ao ?_);refine⟨(_,_,_),rfl,?_,?_⟩)|((with_reducible refine Ap ?_);refine⟨(_,_),rfl,?_,?_⟩)|((with_reducible refine Ad ?_);refine⟨_,rfl,?_,?_⟩)
                          all_goals first|omega|(simp<;>omega)|skip
                          all_goals first|exact hnx|exact t2|skip
                        · have hik':¬(i6:Int)=(k:Int):=by omega
                          have b1:I[i6]?.getD 0<Q.length:=by rw[t2.lr];exact t2.ix_lt h6
                          have b2:a<Q.length:=by rw[t2.lr,←p3];exact t2.ix_lt (show k<i by omega)
                          have e6:Q[I[i6]?.getD 0]?.getD []=A4 M2 i6:=by
                            have:=D_ t2 h6
                            rw[t3,VJ (by omega)] at this
                            exact this.symm
                          have ek:Q[a]?.getD []=A4 M2 k:=by
                            have:=D_ t2 (show k<i by omega)
                            rw[t3,SG (by omega) (by omega),p3] at this
                            exact this.symm
                          have l6:=hS2.row i6 h6
                          have lk:=hS2.row k (by omega)
                          have hne:I[i6]?.getD 0≠a:=by
                            rw[←hIk]
                            exact fun e=>hik (t2.ix_inj h6 (show k<i by omega) e)
                          have ek2:(A4 M2 i6)[k]?.getD 0=CV M2 i6 k:=rfl
                          have c6:=mt 152 135 false I Q (I[i6]?.getD 0) a (CV M2 i6 k) hne b1 b2 (by rw[e6,ek,l6,lk]) (by rw[ek,lk];omega)
                          rw[e6,ek] at c6
                          have hnx:lm I (Q.set (I[i6]?.getD 0) (Du (A4 M2 i6) (A4 M2 k) (CV M2 i6 k)))=(Bg (fun y _=>y) M2 k).take (i6+1)++M2.drop (i6+1):=by
                            have:=VX t2 h6 (Du (A4 M2 i6) (A4 M2 k) (CV M2 i6 k))
                            rw[show GC I i6=I[i6]?.getD 0 from rfl] at this
                            rw[this,t3]
                            exact SH (f:=fun y _=>y) (by omega) hik
                          have hpq:=t2.set (I[i6]?.getD 0) (Du (A4 M2 i6) (A4 M2 k) (CV M2 i6 k))
                          have hI6l:i6<I.length:=by omega
                          (try (simp -implicitDefEqProofs only[go_sem,h6',hw6,hik',hIk,b1,e6,ek2,l6,hkI,hI6l]));repeat' first|(with_reducible first|exact tI|refine aI ?_ ?_|intro _)|((first|with_reducible refine AK ?_ ?_<;>intro _|(with_reducible refine isCall ?_);first|(refine FA ([((900000,0),(50,0))]) ([((900000,0),(50,0))]) (c6) (by repeat' first|exact True.intro|exact rfl|refine And.intro ?_ ?_) (by simp[Handed,Dv.get,Am.ren,AV.ren,AV.ren.renL,AN.get,Be,CH,D8,AN.reach,AV.sites,AV.sites.sitesL,AN.osites]) (by simp[Ca,E',Cc,Dv.get,D8,EF,CU]) (by rfl) (by simp only[D9,Dv.get,Am.ren,AV.ren,AV.ren.renL,and_self,and_true,true_and,if_true,reduceIte];rfl) ?_))<;>try (simp -implicitDefEqProofs only[go_sem,h6',hw6,hik',hIk,b1,e6,ek2,l6,hkI,hI6l]))|simp (disch:=omega) only[Ae]|((with_reducible refine Bf ?_);refine⟨(_,_,_,_),rfl,?_,?_⟩)|((with_reducible refine Ao ?_);refine⟨(_,_,_),rfl,?_,?_⟩)|((with_reducible refine Ap ?_);refine⟨(_,_),rfl,?_,?_⟩)|((with_reducible refine Ad ?_);refine⟨_,rfl,?_,?_⟩)
                          all_goals first|omega|(simp<;>omega)|skip
                          all_goals first|exact hnx|exact hpq|skip
                      · have h6':¬(i6:Int)<(I.length:Int):=by omega
                        have h6e:i6=i:=by omega
                        have hfin:lm I Q=Bg (fun y _=>y) M2 k:=by
                          rw[t3,h6e,←hl2];exact VK
                        obtain⟨st,sd⟩:=k2.stepS k3 (show k<i by omega) f1 hf hz0 t2 (by rw[hfin,←hMe,hM2])
                        (try (simp -implicitDefEqProofs only[go_sem,h6',hwk]));repeat' first|(with_reducible first|exact tI|refine aI ?_ ?_|intro _)|((first|with_reducible refine AK ?_ ?_<;>intro _)<;>try (simp -implicitDefEqProofs only[go_sem,h6',hwk]))|simp (disch:=omega) only[Ae]|((with_reducible refine Bf ?_);refine⟨(_,_,_,_),rfl,?_,?_⟩)|((with_reducible refine Ao ?_);refine⟨(_,_,_),rfl,?_,?_⟩)|((with_reducible refine Ap ?_);refine⟨(_,_),rfl,?_,?_⟩)|((with_reducible refine Ad ?_);refine⟨_,rfl,?_,?_⟩)
                        all_goals first|omega|(simp<;>omega)|skip
                        all_goals first|exact st|(rename_i j hj;exact sd j hj)|skip
            · have hf':¬(f:Int)<(ix.length:Int):=by omega
              have hfe:f=i:=by omega
              exact(k2.fail hL hp hm hk fun q q1 q2=>f3 q q1 (by omega)).elim
        · have hk':¬(k:Int)<(at_.length:Int):=by omega
          have hke:k=at_.length:=by omega
          subst hke
          obtain⟨N,hN⟩:∃N,lm ix R=N:=⟨_,rfl⟩
          have hNl:N.length=i:=by rw[←hN,G5];exact li
          have hmat:Il ix (EZ R)=N.map fun r=>.list false (us r):=by
            rw[ZO fun j hj=>by rw[lr];exact k2.pq.lt j hj,←hN];rfl
          have hun:C6 1 (N.map fun r=>D.list false (us r))=True:=WV fun _=>rfl
          have hmi:(at_.length:Int)<=(i:Int):=by omega
          have hsl:((N.map fun r=>D.list false (us r)).drop at_.length).take (i-at_.length)=(N.drop at_.length).map fun r=>D.list false (us r):=by
            rw[List.take_of_length_le (by simp;omega),List.map_drop]
          have hsl3:(N.map fun r=>D.list false (us r)).take at_.length=(N.take at_.length).map fun r=>D.list false (us r):=by rw[List.map_take]
          have hdl:(N.drop at_.length).length=i-at_.length:=by simp[hNl]
          have hS:=k2.shp
          rw[hN] at hS k3
          (try (simp -implicitDefEqProofs only[go_sem,hk',hmat,hun,hNl,hsl,hmi,hdl]));repeat' first|(with_reducible first|exact tI|refine aI ?_ ?_|intro _)|((first|with_reducible refine AK ?_ ?_<;>intro _)<;>try (simp -implicitDefEqProofs only[go_sem,hk',hmat,hun,hNl,hsl,hmi,hdl]))|simp (disch:=omega) only[Ae]|((with_reducible refine Bf ?_);refine⟨(_,_,_,_),rfl,?_,?_⟩)|((with_reducible refine Ao ?_);refine⟨(_,_,_),rfl,?_,?_⟩)|((with_reducible refine Ap ?_);refine⟨(_,_),rfl,?_,?_⟩)|((with_reducible refine Ad ?_);refine⟨_,rfl,?_,?_⟩)
          all_goals first|omega|(simp<;>omega)|skip
          refine AX (α:=Nat) (l0:=?l7) (m0:=?m7) (fun x=>[(147,.d (.int .i64 (x:Int)))]) (fun x=>[]) (fun x=>x<=i-at_.length/\∀q,q<x->CV N (at_.length+q) at_.length=0) (fun x=>i-at_.length-x) 0 ?h07 ?he7 ?he27 ?hI7 ?step7
          case h07=>(simp -implicitDefEqProofs only[go_sem];rfl)
          case he7=>rfl
          case he27=>rfl
          case' step7=>(rintro i7 hI7;try dsimp only at hI7)
          case' hI7=>try dsimp only
          · exact⟨by omega,fun q hq=>absurd hq (by omega)⟩
          · obtain⟨u1,u2⟩:=hI7
            by_cases h7:i7<i-at_.length
            · have h7':(i7:Int)<((i-at_.length:Nat):Int):=by omega
              have hw7:IntKind.i64.wrap ((i7:Int)+1)=((i7+1:Nat):Int):=by rw[AZ _ (by omega)];omega
              have er:(N.drop at_.length)[i7]?.getD default=A4 N (at_.length+i7):=by rw[List.getElem?_drop];rfl
              have lr7:=hS.row (at_.length+i7) (by omega)
              have ee7:(A4 N (at_.length+i7))[at_.length]?.getD 0=CV N (at_.length+i7) at_.length:=rfl
              by_cases hz7:CV N (at_.length+i7) at_.length=0
              · (try (simp -implicitDefEqProofs only[go_sem,h7',hw7,hdl,er,lr7,ee7,hz7]));repeat' first|(with_reducible first|exact tI|refine aI ?_ ?_|intro _)|((first|with_reducible refine AK ?_ ?_<;>intro _)<;>try (simp -implicitDefEqProofs only[go_sem,h7',hw7,hdl,er,lr7,ee7,hz7]))|simp (disch:=omega) only[Ae]|((with_reducible refine Bf ?_);refine⟨(_,_,_,_),rfl,?_,?_⟩)|((with_reducible refine Ao ?_);refine⟨(_,_,_),rfl,?_,?_⟩)|((with_reducible refine Ap ?_);refine⟨(_,_),rfl,?_,?_⟩)|((with_reducible refine Ad ?_);refine⟨_,rfl,?_,?_⟩)
                all_goals first|omega|(simp<;>omega)|skip
                all_goals first
                  |(
                     rename_i q hq
                     rcases Nat.lt_succ_iff_lt_or_eq.1 hq with hq|rfl
                     · exact u2 q hq
                     · exact hz7)
                  |skip
              · have hso:HN L i at_ s=none:=k2.endsN hm (show at_.length<=at_.length+i7 by omega) (by omega) (by rw[hN];exact hz7)
                rw[hso]
                (try (simp -implicitDefEqProofs only[go_sem,h7',hw7,hdl,er,lr7,ee7,hz7,Pc]));repeat' first|(with_reducible first|exact tI|refine aI ?_ ?_|intro _)|((first|with_reducible refine AK ?_ ?_<;>intro _)<;>try (simp -implicitDefEqProofs only[go_sem,h7',hw7,hdl,er,lr7,ee7,hz7,Pc]))|simp (disch:=omega) only[Ae]|((with_reducible refine Bf ?_);refine⟨(_,_,_,_),rfl,?_,?_⟩)|((with_reducible refine Ao ?_);refine⟨(_,_,_),rfl,?_,?_⟩)|((with_reducible refine Ap ?_);refine⟨(_,_),rfl,?_,?_⟩)|((with_reducible refine Ad ?_);refine⟨_,rfl,?_,?_⟩)
                all_goals first|omega|(simp<;>omega)|skip
                all_goals first|rfl|skip
            · have h7':¬(i7:Int)<((i-at_.length:Nat):Int):=by omega
              obtain⟨v,hv⟩:∃v,(N.take at_.length).map (fun r=>r[at_.length]?.getD 0)=v:=⟨_,rfl⟩
              have hvl:v.length=at_.length:=by rw[←hv];simp;omega
              have hva:∀q,q<at_.length->EY v q=CV N q at_.length:=fun q hq=>by
                have hqN:q<N.length:=by omega
                unfold EY
                rw[←hv,List.getElem?_map,List.getElem?_take_of_lt hq,List.getElem?_eq_getElem hqN]
                simp only[Option.map_some,Option.getD_some]
                unfold CV EY A4
                rw[List.getElem?_eq_getElem hqN,Option.getD_some]
              have hso:HN L i at_ s=some v:=k2.ends hL hp hm v hvl (fun q hq=>by rw[hN,k3 q hq,VP];exact hva q hq) (fun q q1 q2=>by
                rw[hN]
                have:=u2 (q-at_.length) (by omega)
                rwa [show at_.length+(q-at_.length)=q by omega] at this)
              have c7:=V8 false false n2 (N.take at_.length) at_ at_.length rfl (by simp;omega) (fun q hq=>by
                have hq2:q<at_.length:=by simp at hq;omega
                rw[List.getElem?_take_of_lt hq2]
                have:=hS.row q (by omega)
                unfold A4 at this
                omega)
              rw[hv] at c7
              have hte:(N.take at_.length).isEmpty=v.isEmpty:=by rw[←hv];cases N.take at_.length<;>rfl
              rw[hte] at c7
              rw[hso]
              (try (simp -implicitDefEqProofs only[go_sem,h7',hun,hNl,hmi,hsl3,Pb]));repeat' first|(with_reducible first|exact tI|refine aI ?_ ?_|intro _)|((first|with_reducible refine AK ?_ ?_<;>intro _|(with_reducible refine isCall ?_);first|refine AE c7 ?_)<;>try (simp -implicitDefEqProofs only[go_sem,h7',hun,hNl,hmi,hsl3,Pb]))|simp (disch:=omega) only[Ae]|((with_reducible refine Bf ?_);refine⟨(_,_,_,_),rfl,?_,?_⟩)|((with_reducible refine Ao ?_);refine⟨(_,_,_),rfl,?_,?_⟩)|((with_reducible refine Ap ?_);refine⟨(_,_),rfl,?_,?_⟩)|((with_reducible refine Ad ?_);refine⟨_,rfl,?_,?_⟩)
              all_goals first|omega|(simp<;>omega)|skip
              all_goals first|rfl|skip
end Go.Pw

/- A part of the proof. -/
import Derived.Test.YtibkjeolahobbaaGreatDoorPgChrM
set_option linter.all false
open Go Go.Pw Go.Proofs
namespace Go.Pw
set_option maxRecDepth 100000
set_option maxHeartbeats 3200000
section
def oS (l:List Nat):D:=.list l.isEmpty (Ab (ni l))
def jh (ls:List (List Nat)):List D:=ls.map oS
theorem kM (ls:List (List Nat)):(jh ls).length=ls.length:=by simp[jh]
theorem fM (ls:List (List Nat)) (j:Nat) (l:List Nat):jh ls++[.list false (.int .i64 (j:Int)::Ab (ni l))]=jh (ls++[j::l]):=by simp[jh,oS];rfl
theorem cg {ls:List (List Nat)}{i:Nat}{A:D->Prop}:BW (jh ls)[i]? A=(i<ls.length/\A (.list (ls[i]?.getD []).isEmpty (Ab (ni (ls[i]?.getD []))))):=by
 unfold jh
 rw[List.getElem?_map]
 by_cases h:i<ls.length
 ·simp[h,BW,oS]
 ·have:ls[i]?=none:=List.getElem?_eq_none (by omega)
  simp[this,h,BW]
attribute [go_sem] kM fM cg
theorem bF {α:Type}(f:Nat->List α) (c:Nat):∀l:List Nat,(∀j,j∈l->(f j).length<=c)->(l.flatMap f).length<=l.length*c
 |[],_=>by simp
 |j::l,h=>by
  have ih:=bF f c l fun k hk=>h k (by simp[hk])
  have h0:=h j (by simp)
  rw[List.flatMap_cons,List.length_append,List.length_cons,Nat.add_mul]
  omega
theorem Wx (L:Nat) (mk:List Nat) (hL:L<=15):∀m fr,(Bq L mk m fr).length<=16^m
 |0,fr=>by simp[Bq]
 |m+1,fr=>by
  have h1:=bF (fun j=>(Bq L mk m (j+1)).map (j :: ·)) (16^m) ((List.range' fr (L-fr)).filter fun j=>!mk.contains j) (fun j _=>by rw[List.length_map];exact Wx L mk hL m (j+1))
  have h2:((List.range' fr (L-fr)).filter fun j=>!mk.contains j).length<=16:=by
   have:=List.length_filter_le (fun j=>!mk.contains j) (List.range' fr (L-fr))
   rw[List.length_range'] at this;omega
  show ((((List.range' fr (L-fr)).filter fun j=>!mk.contains j).flatMap fun j=>(Bq L mk m (j+1)).map (j :: ·))).length<=16^(m+1)
  rw[Nat.pow_succ]
  have h3:=Nat.mul_le_mul_right (16^m) h2
  omega
theorem OA (L:Nat) (mk:List Nat) (hL:L<=15) {m:Nat}(hm:m<=6) (fr:Nat):(Bq L mk m fr).length<=16777216:=by
 have h1:=Wx L mk hL m fr
 have h2:16^m<=16^6:=Nat.pow_le_pow_right (by omega) hm
 omega
theorem fA (L:Nat) (mk:List Nat) (m j:Nat) (h:j<L):Bq L mk (m+1) j=if mk.contains j=true then Bq L mk (m+1) (j+1) else (Bq L mk m (j+1)).map (j :: ·)++Bq L mk (m+1) (j+1):=by
 show ((List.range' j (L-j)).filter fun j=>!mk.contains j).flatMap _=_
 rw[show L-j=(L-(j+1))+1 by omega,List.range'_succ,List.filter_cons]
 cases hc:mk.contains j with
 |true=>simp only[Bool.not_true,Bool.false_eq_true,if_false,if_true];rfl
 |false=>simp only[Bool.not_false,Bool.false_eq_true,if_false,if_true,List.flatMap_cons];rfl
theorem bt (L:Nat) (mk:List Nat) (m j:Nat) (h:L<=j):Bq L mk (m+1) j=[]:=by
 simp only[Bq]
 rw[show L-j=0 by omega];rfl
theorem Tj (j:Nat) (R:List (List Nat)) (i:Nat) (h:i<R.length):(R.take i).map (j :: ·)++[j::(R[i]?.getD [])]=(R.take (i+1)).map (j :: ·):=by
 rw[←Bb R [] i h,List.map_append];rfl
attribute [local congr] Bm A' BA Au Bn Az A1 A0 Ar Al Af Aa Aw Ag Ax BM BQ BO BP BN BR BG Aj Ay Ak BE BX Ai BK BL BF BH BJ BI BC BD A_ Bp BB Av Ah
attribute [local irreducible] IntKind.wrap A3 Option.getD and or
theorem LD (L P:Nat) (n:Bool) (mk:List Nat) (hL:L<=15):∀(m fr:Nat),m<=6->fr<=100 ->
  CA E0 PS [QM L P,.list n (Ab (ni mk)),.int .i64 (fr:Int),.int .i64 (m:Int)] (.list (Bq L mk m fr).isEmpty (jh (Bq L mk m fr)))
 |0,fr,_,_=>by
  refine AL Lh An (by simp) fun hwf=>?_
  rw[AR];unfold Ie
  rw[Bc,show ((0:Nat):Int)=0 from rfl]
  (try (simp -implicitDefEqProofs only[go_sem]));repeat' first|(with_reducible first|exact tI|refine aI ?_ ?_|intro _)|((first|with_reducible refine AK ?_ ?_<;>intro _)<;>try (simp -implicitDefEqProofs only[go_sem]))|simp (disch:=omega) only[Ae]|((with_reducible refine Ao ?_);refine⟨(_,_,_),rfl,?_,?_⟩)
  all_goals first|rfl|(simp;done)|skip
 |m+1,fr,hm,hfr=>by
  have ih:=LD L P n mk hL m
  refine AL Lh An (by simp) fun hwf=>?_
  rw[AR];unfold Ie
  rw[Bc] at ih ⊢
  have hm0:¬((m+1:Nat):Int)=0:=by omega
  have hwm:IntKind.i64.wrap (((m+1:Nat):Int)-1)=(m:Int):=by rw[AZ _ (by omega)];omega
  (try (simp -implicitDefEqProofs only[go_sem,hm0]));repeat' first|(with_reducible first|exact tI|refine aI ?_ ?_|intro _)|((first|with_reducible refine AK ?_ ?_<;>intro _)<;>try (simp -implicitDefEqProofs only[go_sem,hm0]))|simp (disch:=omega) only[Ae]|((with_reducible refine Ao ?_);refine⟨(_,_,_),rfl,?_,?_⟩)
  all_goals first|omega|(simp<;>omega)|skip
  refine AX (α:=Nat×Bool×(List (List Nat))) (l0:=?l1) (m0:=?m1) (fun x=>[(10,.d (.int .i64 (x.1:Int)))]) (fun x=>[(48,.row 29 1 x.2.1 (jh x.2.2))]) (fun x=>fr<=x.1/\x.1<=max fr L/\x.2.1=x.2.2.isEmpty/\x.2.2++Bq L mk (m+1) x.1=Bq L mk (m+1) fr) (fun x=>L-x.1) (fr,true,[]) ?h01 ?he1 ?he21 ?hI1 ?step1
  case h01=>(simp -implicitDefEqProofs only[go_sem];rfl)
  case he1=>rfl
  case he21=>rfl
  case' step1=>(rintro⟨j,b,out⟩ hI;try dsimp only at hI)
  case' hI1=>try dsimp only
  ·exact⟨Nat.le_refl _,by omega,rfl,rfl⟩
  ·obtain⟨j1,j2,j3,j4⟩:=hI
   change b=out.isEmpty at j3
   have hlo:out.length<=16777216:=by
    have h1:=OA L mk hL hm fr
    rw[←j4,List.length_append] at h1;omega
   by_cases hj:j<L
   ·have hj':(j:Int)<(L:Int):=by omega
    have hwj:IntKind.i64.wrap ((j:Int)+1)=((j+1:Nat):Int):=by rw[AZ _ (by omega)];omega
    have c1:=VI n (ni mk) j
    rw[gh] at c1
    have hrec:=fA L mk m j hj
    cases hc:mk.contains j with
    |true =>
     rw[hc] at c1 hrec
     rw[if_pos rfl] at hrec
     rw[hrec] at j4
     (try (simp -implicitDefEqProofs only[go_sem,hj',hwj]));repeat' first|(with_reducible first|exact tI|refine aI ?_ ?_|intro _)|((first|with_reducible refine AK ?_ ?_<;>intro _|(with_reducible refine isCall ?_);first|refine AE c1 ?_)<;>try (simp -implicitDefEqProofs only[go_sem,hj',hwj]))|simp (disch:=omega) only[Ae]|((with_reducible refine Ao ?_);refine⟨(_,_,_),rfl,?_,?_⟩)
     all_goals first|omega|(simp<;>omega)|skip
     all_goals first|exact⟨j3,j4⟩|exact j4|exact j3|skip
    |false =>
     rw[hc] at c1 hrec
     rw[if_neg (by decide)] at hrec
     rw[hrec,←List.append_assoc] at j4
     have c2:=ih (j+1) (by omega) (by omega)
     have hR6:=OA L mk hL (show m<=6 by omega) (j+1)
     obtain⟨R,hR⟩:∃R,Bq L mk m (j+1)=R:=⟨_,rfl⟩
     rw[hR] at c2 j4 hR6
     (try (simp -implicitDefEqProofs only[go_sem,hj',hwj,hwm]));repeat' first|(with_reducible first|exact tI|refine aI ?_ ?_|intro _)|((first|with_reducible refine AK ?_ ?_<;>intro _|(with_reducible refine isCall ?_);first|refine AE c1 ?_|refine AE c2 ?_)<;>try (simp -implicitDefEqProofs only[go_sem,hj',hwj,hwm]))|simp (disch:=omega) only[Ae]|((with_reducible refine Ao ?_);refine⟨(_,_,_),rfl,?_,?_⟩)
     all_goals first|omega|(simp<;>omega)|skip
     refine AX (α:=Nat×Bool×(List (List Nat))) (l0:=?l2) (m0:=?m2) (fun x=>[(12,.d (.int .i64 (x.1:Int)))]) (fun x=>[(48,.row 29 1 x.2.1 (jh x.2.2))]) (fun x=>x.1<=R.length/\x.2.1=x.2.2.isEmpty/\x.2.2=out++(R.take x.1).map (j :: ·)) (fun x=>R.length-x.1) (0,b,out) ?h02 ?he2 ?he22 ?hI2 ?step2
     case h02=>(simp -implicitDefEqProofs only[go_sem];rfl)
     case he2=>rfl
     case he22=>rfl
     case' step2=>(rintro⟨i,e,o2⟩ hI2;try dsimp only at hI2)
     case' hI2=>try dsimp only
     ·exact⟨Nat.zero_le _,j3,by simp⟩
     ·obtain⟨i1,i2,i3⟩:=hI2
      change e=o2.isEmpty at i2
      have ho2:o2.length<=16777216:=by
       have h1:=OA L mk hL hm fr
       rw[←j4,List.length_append,List.length_append,List.length_map] at h1
       rw[i3,List.length_append,List.length_map,List.length_take];omega
      by_cases h:i<R.length
      ·have hlr:(R[i]?.getD []).length<=100:=by
        have hmem:(R[i]?.getD [])∈Bq L mk m (j+1):=by
         rw[hR,List.getElem?_eq_getElem h,Option.getD_some];exact List.getElem_mem h
        rw[Ww L mk m (j+1) _ hmem];omega
       have h':(i:Int)<(R.length:Int):=by omega
       have hwi:IntKind.i64.wrap ((i:Int)+1)=((i+1:Nat):Int):=by rw[AZ _ (by omega)];omega
       have hk:o2++[j::(R[i]?.getD [])]=out++(R.take (i+1)).map (j :: ·):=by
        rw[i3,List.append_assoc,Tj j R i h]
       have hke:(o2++[j::(R[i]?.getD [])]).isEmpty=false:=Le _ _
       (try (simp -implicitDefEqProofs only[go_sem,h',hwi]));repeat' first|(with_reducible first|exact tI|refine aI ?_ ?_|intro _)|((first|with_reducible refine AK ?_ ?_<;>intro _)<;>try (simp -implicitDefEqProofs only[go_sem,h',hwi]))|simp (disch:=omega) only[Ae]|((with_reducible refine Ao ?_);refine⟨(_,_,_),rfl,?_,?_⟩)
       all_goals first|omega|(simp<;>omega)|skip
       all_goals first|exact⟨hke.symm,hk⟩|exact hk|exact hke.symm|skip
      ·have h':¬(i:Int)<(R.length:Int):=by omega
       have hie:(R.take i)=R:=List.take_of_length_le (by omega)
       rw[hie] at i3
       rw[←i3] at j4
       (try (simp -implicitDefEqProofs only[go_sem,h',hwj]));repeat' first|(with_reducible first|exact tI|refine aI ?_ ?_|intro _)|((first|with_reducible refine AK ?_ ?_<;>intro _)<;>try (simp -implicitDefEqProofs only[go_sem,h',hwj]))|simp (disch:=omega) only[Ae]|((with_reducible refine Ao ?_);refine⟨(_,_,_),rfl,?_,?_⟩)
       all_goals first|omega|(simp<;>omega)|skip
       all_goals first|exact⟨i2,j4⟩|exact j4|exact i2|skip
   ·have hj':¬(j:Int)<(L:Int):=by omega
    rw[bt L mk m j (by omega),List.append_nil] at j4
    subst j3
    rw[←j4]
    (try (simp -implicitDefEqProofs only[go_sem,hj']));repeat' first|(with_reducible first|exact tI|refine aI ?_ ?_|intro _)|((first|with_reducible refine AK ?_ ?_<;>intro _)<;>try (simp -implicitDefEqProofs only[go_sem,hj']))|simp (disch:=omega) only[Ae]|((with_reducible refine Ao ?_);refine⟨(_,_,_),rfl,?_,?_⟩)
    all_goals first|omega|(simp<;>omega)|skip
    all_goals first|rfl|skip
end
theorem HM:∀(at_:List Nat) (w xs:List F) (i:Nat),at_.Nodup->at_.length=xs.length->(∀j,j∈at_->j<w.length)->i<at_.length->(CF w at_ xs)[at_[i]?.getD 0]?.getD 0=xs[i]?.getD 0
 |j::js,w,x::xs,0,hn,hl,hlt,_=>by
  rw[List.nodup_cons] at hn
  show (CF (w.set j x) js xs)[j]?.getD 0=x
  rw[GP js _ xs j hn.1,List.getElem?_set_self (hlt j (by simp))];rfl
 |j::js,w,x::xs,i+1,hn,hl,hlt,hi=>by
  rw[List.nodup_cons] at hn
  show (CF (w.set j x) js xs)[js[i]?.getD 0]?.getD 0=xs[i]?.getD 0
  exact HM js _ xs i hn.2 (by simpa using hl) (fun k hk=>by simpa using hlt k (by simp[hk])) (by simpa using hi)
theorem get_mem {l:List Nat}{i:Nat}(h:i<l.length):l[i]?.getD 0∈l:=by rw[SU _ _ h];exact List.getElem_mem h
theorem Yh {w xs ys:List F}{at_:List Nat}(hn:at_.Nodup) (hx:at_.length=xs.length) (hy:at_.length=ys.length) (hlt:∀j,j∈at_->j<w.length):CF (CF w at_ xs) at_ ys=CF w at_ ys:=by
 apply Xo
 ·rw[Ew,Ew,Ew]
 ·intro j hj
  show (CF (CF w at_ xs) at_ ys)[j]?.getD 0=(CF w at_ ys)[j]?.getD 0
  by_cases h:j∈at_
  ·obtain⟨i,hi,rfl⟩:=List.getElem_of_mem h
   have e:at_[i]=at_[i]?.getD 0:=(SU _ _ hi).symm
   rw[e,HM at_ _ ys i hn hy (fun k hk=>by rw[Ew];exact hlt k hk) hi,HM at_ _ ys i hn hy hlt hi]
  ·rw[GP _ _ _ _ h,GP _ _ _ _ h,GP _ _ _ _ h]
theorem QP {w v:List F}{at_:List Nat}(hv:at_.length=v.length) (h:∀i,i<at_.length->w[at_[i]?.getD 0]?.getD 0=0):GE w at_ v=v:=by
 apply Xo
 ·rw[Gu _ _ _ hv,hv]
 ·intro i hi
  rw[Gu _ _ _ hv] at hi
  show (GE w at_ v)[i]?.getD 0=v[i]?.getD 0
  rw[YX _ _ _ i hi hv,h i hi,IA]
def eS (w:List F) (at_:List Nat):List F:=CF w at_ (List.replicate at_.length 0)
theorem Uw (w:List F) (at_:List Nat):(eS w at_).length=w.length:=Ew ..
theorem aZ {L P:Nat}{w v:List F}{at_:List Nat}(hw:w.length=L) (hp:YZ L at_) (hv:at_.length=v.length):RK 1 (K4 L P at_ (GD L P (eS w at_))) v↔RK 1 (K4 L P at_ (GD L P w)) (GE w at_ v):=by
 have hlt:∀j,j∈at_->j<w.length:=fun j hj=>by rw[hw];exact hp.lt j hj
 have hz:∀i,i<at_.length->(eS w at_)[at_[i]?.getD 0]?.getD 0=0:=fun i hi=>by
  unfold eS
  rw[HM at_ w _ i hp.nd (by simp) hlt hi,List.getElem?_replicate,if_pos hi];rfl
 have ho:CF (eS w at_) at_ v=CF w at_ v:=Yh hp.nd (by simp) hv hlt
 rw[RQ hv.symm,RQ (by rw[Gu _ _ _ hv])]
 constructor
 ·intro h i hi
  have:=h i hi
  rw[←GR hw hp hv i hi,←ho,GR (by rw[Uw,hw]) hp hv i hi,QP hv hz]
  exact this
 ·intro h i hi
  have:=h i hi
  rw[←GR hw hp hv i hi,←ho,GR (by rw[Uw,hw]) hp hv i hi,QP hv hz] at this
  exact this
theorem lW {L P:Nat}(hL:L<=15) {w:List F}{mk l:List Nat}(hw:w.length=L) (hp:YZ L (mk++l)) (hm:(mk++l).length<=P) :
  hit L P w mk l=(HN L P (mk++l) (GD L P (eS w (mk++l)))).map (CF w (mk++l)):=by
 unfold hit
 obtain⟨A,hA⟩:∃A,mk++l=A:=⟨_,rfl⟩
 rw[hA] at hp hm ⊢
 cases h:HN L P A (GD L P (eS w A)) with
 |some v =>
  obtain⟨h1,h2⟩:=GT h
  rw[MJ hL hp hm (Gu _ _ _ h1.symm) ((aZ hw hp h1.symm).1 h2),Option.map_some,Option.map_some,Jg _ _ _ h1.symm]
 |none =>
  cases h':HN L P A (GD L P w) with
  |none=>rfl
  |some u =>
   exfalso
   obtain⟨h1,h2⟩:=GT h'
   have hl:=Gu w A u h1.symm
   have h3:RK 1 (K4 L P A (GD L P (eS w A))) (GE w A u):=(aZ hw hp hl.symm).2 (by rw[Jg _ _ _ h1.symm];exact h2)
   rw[MJ hL hp hm hl h3] at h
   cases h
theorem d4 {L P:Nat}(hL:L<=15) {d:List F}(hd:d.length+P=L):∃v,HN L P (List.range' d.length P) (GD L P (d++List.replicate P 0))=some v/\CF (d++List.replicate P 0) (List.range' d.length P) v=Fl P d:=by
 have hp:YZ L (List.range' d.length P):=⟨List.nodup_range',fun j hj=>by simp at hj;omega⟩
 have hwl:(d++List.replicate P (0:F)).length=L:=by simp;omega
 have hcl:(Fl P d).length=L:=by rw[Gp];exact hd
 have h:=VZ (P:=P) (mk:=[]) hL hwl hcl hp (by simp) (by rw[←hd];exact Xz P d) fun j hj=>by
  by_cases h2:j<d.length
  ·rw[ip P d j h2,List.getElem?_append_left h2]
  ·have h3:¬j<L:=fun h3=>hj (by simp;omega)
   rw[List.getElem?_eq_none (by omega),List.getElem?_eq_none (by omega)]
 unfold hit at h
 rw[Option.map_eq_some_iff] at h
 obtain⟨u,h1,h2⟩:=h
 refine⟨u,h1,?_⟩
 have hu:=(GT h1).1
 rw[List.nil_append] at h2 hu
 rwa [QP hu.symm] at h2
 intro i hi
 have hr:(List.range' d.length P)[i]?.getD 0=d.length+i:=by
  rw[List.length_range'] at hi
  rw[List.getElem?_range' (by omega)]
  show d.length+1*i=_
  omega
 rw[hr,List.getElem?_append_right (by omega),List.getElem?_replicate]
 split<;>rfl
section
theorem i0 {l p:Nat}{w:List F}{mk:List Nat}(h:p<mk.length):G9 l p w mk=none:=by unfold G9;rw[if_neg (by omega)]
attribute [local congr] Bm A' BA Au Bn Az A1 A0 Ar Al Af Aa Aw Ag Ax BM BQ BO BP BN BR BG Aj Ay Ak BE BX Ai BK BL BF BH BJ BI BC BD A_ Bp BB Av Ah
attribute [local irreducible] IntKind.wrap A3 Option.getD and or
end
section
def rI (o:Option (List F)):D:=match o with
 |some r=>.tup [.list false (Ab (iv r)),.bool true]
 |none=>.tup [.list true [],.bool false]
theorem X_ (v:List F):rI (some v)=.tup [.list false (Ab (iv v)),.bool true]:=rfl
theorem S2:rI none=.tup [.list true [],.bool false]:=rfl
theorem Tm {α:Type}(f:List Nat->Option α):∀(l:List (List Nat)),(∀k,k<l.length->f (l[k]?.getD [])=none)->l.findSome? f=none:=fun l h=>by
 rw[List.findSome?_eq_none_iff]
 intro x hx
 obtain⟨i,hi,rfl⟩:=List.getElem_of_mem hx
 have:=h i hi
 rwa [List.getElem?_eq_getElem hi] at this
theorem Qn {α:Type}(f:List Nat->Option α) (r:α):∀(l:List (List Nat)) (i:Nat),i<l.length->(∀k,k<i->f (l[k]?.getD [])=none)->f (l[i]?.getD [])=some r->l.findSome? f=some r
 |x::l,0,_,_,h=>by
  have h':f x=some r:=h
  rw[List.findSome?_cons,h']
 |x::l,i+1,hi,hn,h=>by
  have h0:f x=none:=hn 0 (by omega)
  rw[List.findSome?_cons,h0]
  exact Qn f r l i (by simpa using hi) (fun k hk=>hn (k+1) (by omega)) h
theorem G3:ni []=[]:=rfl
theorem Qg {l:List Nat}(h:l≠[]):¬ni l=[]:=by cases l<;>simp_all[ni]
theorem Pv {α:Type}(l:List α):l=[]\/l≠[]:=by cases l<;>simp
attribute [local congr] Bm A' BA Au Bn Az A1 A0 Ar Al Af Aa Aw Ag Ax BM BQ BO BP BN BR BG Aj Ay Ak BE BX Ai BK BL BF BH BJ BI BC BD A_ Bp BB Av Ah
attribute [local irreducible] IntKind.wrap A3 Option.getD and or
theorem Pl (L P:Nat) (n1 n2:Bool) (w:List F) (mk:List Nat) (hL:L<=15) (hL1:1<=L) (hP:1<=P) (hP2:P<=8) (hw:w.length=L) (hm:Yd L mk) :
  CA E0 L1 [QM L P,.list n1 (Ab (iv w)),.list n2 (Ab (ni mk))] (rI (G9 L P w mk)):=by
 have hml:=VW hm
 refine AL P9 An (by simp) fun hwf=>?_
 rw[AR];unfold KR
 by_cases hov:P<mk.length
 ·have hov':(P:Int)<(mk.length:Int):=by omega
  rw[i0 hov,S2,Bc]
  (try (simp -implicitDefEqProofs only[go_sem,hov']));repeat' first|(with_reducible first|exact tI|refine aI ?_ ?_|intro _)|((first|with_reducible refine AK ?_ ?_<;>intro _)<;>try (simp -implicitDefEqProofs only[go_sem,hov']))|simp (disch:=omega) only[Ae]|((with_reducible refine Ad ?_);refine⟨_,rfl,?_,?_⟩)
  all_goals first|rfl|(simp;done)|skip
 ·have hov':¬(P:Int)<(mk.length:Int):=by omega
  have hw1:IntKind.i64.wrap ((P:Int)-(mk.length:Int))=((P-mk.length:Nat):Int):=by rw[AZ _ (by omega)];omega
  have hd:Int.tdiv ((P-mk.length:Nat):Int) 2=(((P-mk.length)/2:Nat):Int):=Rq _ 2
  have hw2:IntKind.i64.wrap (((P-mk.length)/2:Nat):Int)=(((P-mk.length)/2:Nat):Int):=AZ _ (by omega)
  obtain⟨M,hM⟩:∃M,(P-mk.length)/2=M:=⟨_,rfl⟩
  have hM4:M<=4:=by omega
  rw[hM] at hd hw2
  rw[Bc]
  (try (simp -implicitDefEqProofs only[go_sem,hov',hw1,hd,hw2]));repeat' first|(with_reducible first|exact tI|refine aI ?_ ?_|intro _)|((first|with_reducible refine AK ?_ ?_<;>intro _)<;>try (simp -implicitDefEqProofs only[go_sem,hov',hw1,hd,hw2]))|simp (disch:=omega) only[Ae]|((with_reducible refine Ad ?_);refine⟨_,rfl,?_,?_⟩)
  all_goals first|omega|(simp<;>omega)|skip
  refine AX (α:=Nat) (l0:=?l1) (m0:=?m1) (fun x=>[(9,.d (.int .i64 (x:Int)))]) (fun x=>[]) (fun x=>x<=M+1/\∀k,k<x->V7 L P w mk k=none) (fun x=>M+1-x) 0 ?h01 ?he1 ?he21 ?hI1 ?step1
  case h01=>(simp -implicitDefEqProofs only[go_sem];rfl)
  case he1=>rfl
  case he21=>rfl
  case' step1=>(rintro e hI;try dsimp only at hI)
  case' hI1=>try dsimp only
  ·exact⟨Nat.zero_le _,fun k hk=>absurd hk (by omega)⟩
  ·obtain⟨h1,h2⟩:=hI
   by_cases h:e<=M
   ·have h':(e:Int)<=(M:Int):=by omega
    have hwe:IntKind.i64.wrap ((e:Int)+1)=((e+1:Nat):Int):=by rw[AZ _ (by omega)];omega
    have c1:=LD L P n2 mk hL e 0 (by omega) (by omega)
    rw[Bc,show (((0:Nat)):Int)=0 from rfl] at c1
    have hRl:=OA L mk hL (show e<=6 by omega) 0
    have hsp:=fun l hl=>HV L mk e 0 l hl
    have hE:V7 L P w mk e=(Bq L mk e 0).findSome? (hit L P w mk):=rfl
    obtain⟨R,hR⟩:∃R,Bq L mk e 0=R:=⟨_,rfl⟩
    rw[hR] at c1 hRl hsp hE
    (try (simp -implicitDefEqProofs only[go_sem,h']));repeat' first|(with_reducible first|exact tI|refine aI ?_ ?_|intro _)|((first|with_reducible refine AK ?_ ?_<;>intro _|(with_reducible refine isCall ?_);first|refine AE c1 ?_)<;>try (simp -implicitDefEqProofs only[go_sem,h']))|simp (disch:=omega) only[Ae]|((with_reducible refine Ad ?_);refine⟨_,rfl,?_,?_⟩)
    all_goals first|omega|(simp<;>omega)|skip
    refine AX (α:=Nat) (l0:=?l2) (m0:=?m2) (fun x=>[(11,.d (.int .i64 (x:Int)))]) (fun x=>[]) (fun x=>x<=R.length/\∀k,k<x->hit L P w mk (R[k]?.getD [])=none) (fun x=>R.length-x) 0 ?h02 ?he2 ?he22 ?hI2 ?step2
    case h02=>(simp -implicitDefEqProofs only[go_sem];rfl)
    case he2=>rfl
    case he22=>rfl
    case' step2=>(rintro i hI2;try dsimp only at hI2)
    case' hI2=>try dsimp only
    ·exact⟨Nat.zero_le _,fun k hk=>absurd hk (by omega)⟩
    ·obtain⟨i1,i2⟩:=hI2
     by_cases hi:i<R.length
     ·have hi':(i:Int)<(R.length:Int):=by omega
      have hwi:IntKind.i64.wrap ((i:Int)+1)=((i+1:Nat):Int):=by rw[AZ _ (by omega)];omega
      have hmem:(R[i]?.getD [])∈R:=by rw[List.getElem?_eq_getElem hi,Option.getD_some];exact List.getElem_mem hi
      obtain⟨s1,s2⟩:=hsp _ hmem
      have hnow:=fun r=>Qn (hit L P w mk) r R i
      obtain⟨l,hl⟩:∃l,R[i]?.getD []=l:=⟨_,rfl⟩
      rw[hl] at s1 s2
      have hpos:=RO hm s2
      have hAl:(mk++l).length<=P:=by rw[List.length_append];omega
      have hz:=lW hL hw hpos hAl
      have hzl:=Uw w (mk++l)
      have hwl:1<=w.length:=by omega
      obtain⟨A,hA⟩:∃A,mk++l=A:=⟨_,rfl⟩
      rw[hA] at hpos hAl hz hzl
      have c2:=fun b=>He n1 b false w A (List.replicate A.length 0) (by omega) (by omega) (by simp) (fun j hj=>by rw[hw];exact hpos.lt j hj)
      have hZ:CF w A (List.replicate A.length 0)=eS w A:=rfl
      rw[hZ] at c2
      have c3:=fun b=>KI L P false b (eS w A) A hL hL1 hP (by omega) (by omega) hpos hAl
      rw[Bc] at c3
      have c4:=fun b v hv=>He n1 b v.isEmpty w A v (by omega) (by omega) hv (fun j hj=>by rw[hw];exact hpos.lt j hj)
      rw[←J3] at c2
      rw[hl] at hnow
      obtain⟨O,hO⟩:∃O,HN L P A (GD L P (eS w A))=O:=⟨_,rfl⟩
      rw[hO] at c3 hz
      cases O with
      |none =>
       rw[Pe] at c3
       rw[Option.map_none] at hz
       have hnx:∀k,k<i+1->hit L P w mk (R[k]?.getD [])=none:=fun k hk=>by
        rcases Nat.lt_succ_iff_lt_or_eq.1 hk with hk|rfl
        ·exact i2 k hk
        ·rw[hl];exact hz
       rcases Pv mk with rfl|e1
       ·rcases Pv l with rfl|e2
        ·have hA':[]=A:=hA
         subst hA'
         (try (simp -implicitDefEqProofs only[go_sem,hi',hwi,hl,hwl,hzl,G3]));repeat' first|(with_reducible first|exact tI|refine aI ?_ ?_|intro _)|((first|with_reducible refine AK ?_ ?_<;>intro _|(with_reducible refine isCall ?_);first|refine AE (c2 _) ?_|refine AE (c3 _) ?_)<;>try (simp -implicitDefEqProofs only[go_sem,hi',hwi,hl,hwl,hzl,G3]))|simp (disch:=omega) only[Ae]|((with_reducible refine Ad ?_);refine⟨_,rfl,?_,?_⟩)
         all_goals first|omega|(simp<;>omega)|skip
         all_goals first|exact hnx|exact hnx _ (by assumption)|skip
        ·have e2:=Qg e2
         have hA':l=A:=hA
         subst hA'
         (try (simp -implicitDefEqProofs only[go_sem,hi',hwi,hl,hwl,hzl,G3,e2]));repeat' first|(with_reducible first|exact tI|refine aI ?_ ?_|intro _)|((first|with_reducible refine AK ?_ ?_<;>intro _|(with_reducible refine isCall ?_);first|refine AE (c2 _) ?_|refine AE (c3 _) ?_)<;>try (simp -implicitDefEqProofs only[go_sem,hi',hwi,hl,hwl,hzl,G3,e2]))|simp (disch:=omega) only[Ae]|((with_reducible refine Ad ?_);refine⟨_,rfl,?_,?_⟩)
         all_goals first|omega|(simp<;>omega)|skip
         all_goals first|exact hnx|exact hnx _ (by assumption)|skip
       ·rcases Pv l with rfl|e2
        ·have e1:=Qg e1
         rw[List.append_nil] at hA
         subst hA
         (try (simp -implicitDefEqProofs only[go_sem,hi',hwi,hl,hwl,hzl,G3,e1]));repeat' first|(with_reducible first|exact tI|refine aI ?_ ?_|intro _)|((first|with_reducible refine AK ?_ ?_<;>intro _|(with_reducible refine isCall ?_);first|refine AE (c2 _) ?_|refine AE (c3 _) ?_)<;>try (simp -implicitDefEqProofs only[go_sem,hi',hwi,hl,hwl,hzl,G3,e1]))|simp (disch:=omega) only[Ae]|((with_reducible refine Ad ?_);refine⟨_,rfl,?_,?_⟩)
         all_goals first|omega|(simp<;>omega)|skip
         all_goals first|exact hnx|exact hnx _ (by assumption)|skip
        ·have e2:=Qg e2
         have e1:=Qg e1
         (try (simp -implicitDefEqProofs only[go_sem,hi',hwi,hl,hwl,hzl,e1,e2,hA]));repeat' first|(with_reducible first|exact tI|refine aI ?_ ?_|intro _)|((first|with_reducible refine AK ?_ ?_<;>intro _|(with_reducible refine isCall ?_);first|refine AE (c2 _) ?_|refine AE (c3 _) ?_)<;>try (simp -implicitDefEqProofs only[go_sem,hi',hwi,hl,hwl,hzl,e1,e2,hA]))|simp (disch:=omega) only[Ae]|((with_reducible refine Ad ?_);refine⟨_,rfl,?_,?_⟩)
         all_goals first|omega|(simp<;>omega)|skip
         all_goals first|exact hnx|exact hnx _ (by assumption)|skip
      |some v =>
       rw[ML] at c3
       rw[Option.map_some] at hz
       have hvl:=(GT hO).1
       replace c4:=fun b=>c4 b v hvl.symm
       have hfin:G9 L P w mk=some (CF w A v):=bL h2 (by rw[hE];exact hnow _ hi i2 hz) (by omega)
       rw[hfin,X_]
       rcases Pv mk with rfl|e1
       ·rcases Pv l with rfl|e2
        ·have hA':[]=A:=hA
         subst hA'
         (try (simp -implicitDefEqProofs only[go_sem,hi',hwi,hl,hwl,hzl,G3]));repeat' first|(with_reducible first|exact tI|refine aI ?_ ?_|intro _)|((first|with_reducible refine AK ?_ ?_<;>intro _|(with_reducible refine isCall ?_);first|refine AE (c2 _) ?_|refine AE (c3 _) ?_|refine AE (c4 _) ?_)<;>try (simp -implicitDefEqProofs only[go_sem,hi',hwi,hl,hwl,hzl,G3]))|simp (disch:=omega) only[Ae]|((with_reducible refine Ad ?_);refine⟨_,rfl,?_,?_⟩)
         all_goals first|omega|(simp<;>omega)|skip
         all_goals first|rfl|skip
        ·have e2:=Qg e2
         have hA':l=A:=hA
         subst hA'
         (try (simp -implicitDefEqProofs only[go_sem,hi',hwi,hl,hwl,hzl,G3,e2]));repeat' first|(with_reducible first|exact tI|refine aI ?_ ?_|intro _)|((first|with_reducible refine AK ?_ ?_<;>intro _|(with_reducible refine isCall ?_);first|refine AE (c2 _) ?_|refine AE (c3 _) ?_|refine AE (c4 _) ?_)<;>try (simp -implicitDefEqProofs only[go_sem,hi',hwi,hl,hwl,hzl,G3,e2]))|simp (disch:=omega) only[Ae]|((with_reducible refine Ad ?_);refine⟨_,rfl,?_,?_⟩)
         all_goals first|omega|(simp<;>omega)|skip
         all_goals first|rfl|skip
       ·rcases Pv l with rfl|e2
        ·have e1:=Qg e1
         rw[List.append_nil] at hA
         subst hA
         (try (simp -implicitDefEqProofs only[go_sem,hi',hwi,hl,hwl,hzl,G3,e1]));repeat' first|(with_reducible first|exact tI|refine aI ?_ ?_|intro _)|((first|with_reducible refine AK ?_ ?_<;>intro _|(with_reducible refine isCall ?_);first|refine AE (c2 _) ?_|refine AE (c3 _) ?_|refine AE (c4 _) ?_)<;>try (simp -implicitDefEqProofs only[go_sem,hi',hwi,hl,hwl,hzl,G3,e1]))|simp (disch:=omega) only[Ae]|((with_reducible refine Ad ?_);refine⟨_,rfl,?_,?_⟩)
         all_goals first|omega|(simp<;>omega)|skip
         all_goals first|rfl|skip
        ·have e2:=Qg e2
         have e1:=Qg e1
         (try (simp -implicitDefEqProofs only[go_sem,hi',hwi,hl,hwl,hzl,e1,e2,hA]));repeat' first|(with_reducible first|exact tI|refine aI ?_ ?_|intro _)|((first|with_reducible refine AK ?_ ?_<;>intro _|(with_reducible refine isCall ?_);first|refine AE (c2 _) ?_|refine AE (c3 _) ?_|refine AE (c4 _) ?_)<;>try (simp -implicitDefEqProofs only[go_sem,hi',hwi,hl,hwl,hzl,e1,e2,hA]))|simp (disch:=omega) only[Ae]|((with_reducible refine Ad ?_);refine⟨_,rfl,?_,?_⟩)
         all_goals first|omega|(simp<;>omega)|skip
         all_goals first|rfl|skip
     ·have hi':¬(i:Int)<(R.length:Int):=by omega
      have hno:∀k,k<e+1->V7 L P w mk k=none:=fun k hk=>by
       rcases Nat.lt_succ_iff_lt_or_eq.1 hk with hk|rfl
       ·exact h2 k hk
       ·rw[hE];exact Tm _ _ fun k hk=>i2 k (by omega)
      (try (simp -implicitDefEqProofs only[go_sem,hi',hwe]));repeat' first|(with_reducible first|exact tI|refine aI ?_ ?_|intro _)|((first|with_reducible refine AK ?_ ?_<;>intro _)<;>try (simp -implicitDefEqProofs only[go_sem,hi',hwe]))|simp (disch:=omega) only[Ae]|((with_reducible refine Ad ?_);refine⟨_,rfl,?_,?_⟩)
      all_goals first|omega|(simp<;>omega)|skip
      all_goals first|exact hno|exact hno _ (by assumption)|skip
   ·have h':¬(e:Int)<=(M:Int):=by omega
    rw[X7 h2 (by omega),S2]
    (try (simp -implicitDefEqProofs only[go_sem,h']));repeat' first|(with_reducible first|exact tI|refine aI ?_ ?_|intro _)|((first|with_reducible refine AK ?_ ?_<;>intro _)<;>try (simp -implicitDefEqProofs only[go_sem,h']))|simp (disch:=omega) only[Ae]|((with_reducible refine Ad ?_);refine⟨_,rfl,?_,?_⟩)
    all_goals first|omega|(simp<;>omega)|skip
    all_goals first|rfl|skip
end
section
theorem Y9 (a n:Nat):List.range' a n++[a+n]=List.range' a (n+1):=by rw[List.range'_concat];simp
theorem pK {w:List F}(h:0<w.length):¬iv w=[]:=by cases w<;>simp_all[iv]
attribute [local congr] Bm A' BA Au Bn Az A1 A0 Ar Al Af Aa Aw Ag Ax BM BQ BO BP BN BR BG Aj Ay Ak BE BX Ai BK BL BF BH BJ BI BC BD A_ Bp BB Av Ah
attribute [local irreducible] IntKind.wrap A3 Option.getD and or
theorem Pk (L P:Nat) (n1:Bool) (d:List F) (hL:L<=15) (hP:1<=P) (hd:d.length+P=L) (hd1:1<=d.length) :
  CA E0 L0 [QM L P,.list n1 (Ab (iv d))] (.list false (Ab (iv (Fl P d)))):=by
 obtain⟨v,hv1,hv2⟩:=d4 hL hd
 have hwl:(d++List.replicate P (0:F)).length=L:=by simp;omega
 have hp:YZ L (List.range' d.length P):=⟨List.nodup_range',fun j hj=>by simp at hj;omega⟩
 have hvl:=(GT hv1).1
 have c1:=fun b=>KI L P false b (d++List.replicate P 0) (List.range' d.length P) hL (by omega) hP (by omega) hwl hp (by simp)
 rw[hv1,ML] at c1
 have c2:=fun b=>He false b v.isEmpty (d++List.replicate P 0) (List.range' d.length P) v (by omega) (by omega) hvl.symm (fun j hj=>by rw[hwl];exact hp.lt j hj)
 rw[hv2] at c2
 refine AL P8 An (by simp) fun hwf=>?_
 rw[AR];unfold KQ
 rw[Bc] at c1 ⊢
 have hne:=pK (w:=d) (by omega)
 (try (simp -implicitDefEqProofs only[go_sem,hne,J3]));repeat' first|(with_reducible first|exact tI|refine aI ?_ ?_|intro _)|((first|with_reducible refine AK ?_ ?_<;>intro _)<;>try (simp -implicitDefEqProofs only[go_sem,hne,J3]))|simp (disch:=omega) only[Ae]|((with_reducible refine Ap ?_);refine⟨(_,_),rfl,?_,?_⟩)
 all_goals first|omega|(simp<;>omega)|skip
 refine AX (α:=Nat×Bool) (l0:=?l1) (m0:=?m1) (fun x=>[(7,.d (.int .i64 ((d.length+x.1:Nat):Int))),(5,.d (.list false (Ab (iv (d++List.replicate P 0)))))]) (fun x=>[(27,.row 3 1 x.2 (Ab (ni (List.range' d.length x.1))))]) (fun x=>x.1<=P/\x.2=decide (x.1=0)) (fun x=>P-x.1) (0,true) ?h01 ?he1 ?he21 ?hI1 ?step1
 case h01=>(simp -implicitDefEqProofs only[go_sem];rfl)
 case he1=>rfl
 case he21=>rfl
 case' step1=>(rintro⟨j,b⟩ hI;try dsimp only at hI)
 case' hI1=>try dsimp only
 ·exact⟨Nat.zero_le _,rfl⟩
 ·obtain⟨j1,j2⟩:=hI
  change b=decide (j=0) at j2
  subst j2
  by_cases h:j<P
  ·have h':((d.length+j:Nat):Int)<(L:Int):=by omega
   have hwj:IntKind.i64.wrap (((d.length+j:Nat):Int)+1)=((d.length+(j+1):Nat):Int):=by rw[AZ _ (by omega)];omega
   have hk:=Y9 d.length j
   (try (simp -implicitDefEqProofs only[go_sem,h',hwj,hk]));repeat' first|(with_reducible first|exact tI|refine aI ?_ ?_|intro _)|((first|with_reducible refine AK ?_ ?_<;>intro _)<;>try (simp -implicitDefEqProofs only[go_sem,h',hwj,hk]))|simp (disch:=omega) only[Ae]|((with_reducible refine Ap ?_);refine⟨(_,_),rfl,?_,?_⟩)
   all_goals first|omega|(simp<;>omega)|skip
   all_goals first|rfl|skip
  ·have h':¬((d.length+j:Nat):Int)<(L:Int):=by omega
   have hje:j=P:=by omega
   subst hje
   have hj0:decide (j=0)=false:=decide_eq_false (by omega)
   rw[hj0]
   (try (simp -implicitDefEqProofs only[go_sem,h']));repeat' first|(with_reducible first|exact tI|refine aI ?_ ?_|intro _)|((first|with_reducible refine AK ?_ ?_<;>intro _|(with_reducible refine isCall ?_);first|refine AE (c1 _) ?_|refine AE (c2 _) ?_)<;>try (simp -implicitDefEqProofs only[go_sem,h']))|simp (disch:=omega) only[Ae]|((with_reducible refine Ap ?_);refine⟨(_,_),rfl,?_,?_⟩)
   all_goals first|omega|(simp<;>omega)|skip
   all_goals first|rfl|skip
def sL (L P:Int) (ws ms:List Int):Int:=if EM L P=true then if CP ws L=true then if Da ms L=true then 0 else 1 else 51 else 50
end
section
attribute [local congr] Bm A' BA Au Bn Az A1 A0 Ar Al Af Aa Aw Ag Ax BM BQ BO BP BN BR BG Aj Ay Ak BE BX Ai BK BL BF BH BJ BI BC BD A_ Bp BB Av Ah
attribute [local irreducible] IntKind.wrap A3 Option.getD and or
end
theorem Vx {q k j:Nat}(h:k<q):(j*q+k)/q=j:=by
 rw[Nat.mul_comm,Nat.mul_add_div (by omega),Nat.div_eq_of_lt h,Nat.add_zero]
theorem Sl {q k j:Nat}(h:k<q):(j*q+k)%q=k:=by
 rw[Nat.mul_comm,Nat.mul_add_mod,Nat.mod_eq_of_lt h]
theorem Oj {q k j m:Nat}(h:k<q) (hj:j<m):j*q+k<m*q:=by
 have:=Nat.mul_le_mul_right q (show j+1<=m by omega)
 rw[Nat.add_mul,Nat.one_mul] at this
 omega
theorem X5 (q i:Nat):i/q*q+i%q=i:=Nat.div_add_mod' i q
def CI (m q k:Nat) (b:List F):List F:=(List.range m).map fun j=>b[j*q+k]?.getD 0
theorem B' (m q k:Nat) (b:List F):(CI m q k b).length=m:=by simp[CI]
theorem JS {m q k:Nat}{b:List F}(j:Nat) (h:j<m):(CI m q k b)[j]?.getD 0=b[j*q+k]?.getD 0:=by simp[CI,h]
def GW (m q:Nat) (W:Nat->List F):List F:=(List.range (m*q)).map fun i=>(W (i%q))[i/q]?.getD 0
theorem F0 (m q:Nat) (W:Nat->List F):(GW m q W).length=m*q:=by simp[GW]
theorem TB {m q:Nat}{W:Nat->List F}(i:Nat) (h:i<m*q):(GW m q W)[i]?.getD 0=(W (i%q))[i/q]?.getD 0:=by simp[GW,h]
theorem TC {m q:Nat}(hq:0<q) {W V:Nat->List F}(h:∀k,k<q->W k=V k):GW m q W=GW m q V:=by
 unfold GW
 apply List.map_congr_left
 intro i hi
 rw[h _ (Nat.mod_lt _ hq)]
theorem jN {m q:Nat}(hq:0<q) {b:List F}(hb:b.length=m*q):GW m q (fun k=>CI m q k b)=b:=by
 apply Xo
 ·rw[F0,hb]
 ·intro i hi
  rw[F0] at hi
  show (GW m q fun k=>CI m q k b)[i]?.getD 0=b[i]?.getD 0
  rw[TB i hi,JS _ (Nat.div_lt_of_lt_mul (by rw[Nat.mul_comm];exact hi)),X5]
def OU (q k:Nat) (ms:List Nat):List Nat:=(ms.filter fun i=>i%q == k).map (·/q)
theorem RU {m q k:Nat}(hq:0<q) {ms:List Nat}(h:Yd (m*q) ms):Yd m (OU q k ms):=by
 refine⟨?_,fun j hj=>?_⟩
 ·unfold OU
  rw[List.pairwise_map]
  refine List.Pairwise.imp_of_mem (fun {a b} ha hb hab=>?_) (h.asc.filter _)
  simp only[List.mem_filter,beq_iff_eq] at ha hb
  have e1:=X5 q a
  have e2:=X5 q b
  rcases Nat.lt_or_ge (a/q) (b/q) with h1|h1
  ·exact h1
  ·have:=Nat.mul_le_mul_right q h1
   omega
 ·simp only[OU,List.mem_map,List.mem_filter,beq_iff_eq] at hj
  obtain⟨i,⟨hi,_⟩,rfl⟩:=hj
  exact Nat.div_lt_of_lt_mul (by rw[Nat.mul_comm];exact h.lt i hi)
theorem aw {q k j:Nat}(hk:k<q) {ms:List Nat}:j∈OU q k ms↔j*q+k∈ms:=by
 simp only[OU,List.mem_map,List.mem_filter,beq_iff_eq]
 constructor
 ·rintro⟨i,⟨h1,h2⟩,rfl⟩
  have:=X5 q i
  rw[h2] at this
  rwa [this]
 ·intro h
  exact⟨j*q+k,⟨h,Sl hk⟩,Vx hk⟩
theorem XQ (q k x:Nat) (ms:List Nat):OU q k (ms++[x])=if x%q=k then OU q k ms++[x/q] else OU q k ms:=by
 unfold OU
 rw[List.filter_append,List.map_append]
 by_cases h:x%q=k
 ·rw[if_pos h];simp[h]
 ·rw[if_neg h];simp[h]
def aU (L P q:Nat) (d:List F):List F:=GW L q fun k=>Fl P (CI (L-P) q k d)
theorem aR (L P q:Nat) (d:List F):(aU L P q d).length=L*q:=F0 ..
noncomputable def Ve (L P q:Nat) (b:List F) (ms:List Nat) (k:Nat):Option (List F):=G9 L P (CI L q k b) (OU q k ms)
noncomputable def bD (L P q:Nat) (b:List F) (ms:List Nat) (k:Nat):List F:=match Ve L P q b ms k with
 |some r=>r.take (L-P)
 |none=>[]
theorem Od {L P q:Nat}{b:List F}{ms:List Nat}{k:Nat}{r:List F}(h:Ve L P q b ms k=some r):bD L P q b ms k=r.take (L-P):=by
 unfold bD;rw[h]
noncomputable def bE (L P q:Nat) (b:List F) (ms:List Nat):Option (List F):=if ∀k,k<q->(Ve L P q b ms k).isSome=true then some (GW (L-P) q (bD L P q b ms)) else none
theorem SY {L P q:Nat}{b:List F}{ms:List Nat}(h:∀k,k<q->(Ve L P q b ms k).isSome=true):bE L P q b ms=some (GW (L-P) q (bD L P q b ms)):=by unfold bE;rw[if_pos h]
theorem g9 {L P q:Nat}{b:List F}{ms:List Nat}{k:Nat}(hk:k<q) (h:Ve L P q b ms k=none):bE L P q b ms=none:=by
 unfold bE;rw[if_neg fun h2=>by have:=h2 k hk;rw[h] at this;cases this]
theorem Tb {L P q:Nat}(hL:L<=15) (hPL:P<L) (hq:0<q) {d R:List F}{ms:List Nat}(hd:d.length=(L-P)*q) (hR:R.length=L*q) (hm:Yd (L*q) ms)
  (h:∀k,k<q->2*(Ra L (Fl P (CI (L-P) q k d)) (CI L q k R) (OU q k ms)).length+(OU q k ms).length<=P):bE L P q R ms=some d:=by
 have hO:∀k,k<q->Ve L P q R ms k=some (Fl P (CI (L-P) q k d)):=fun k hk=>by
  have hl:=B' (L-P) q k d
  have hc:=Xz P (CI (L-P) q k d)
  rw[hl,show L-P+P=L by omega] at hc
  exact iz hL (B' ..) (by rw[Gp,hl];omega) (RU hq hm) hc (h k hk)
 rw[SY fun k hk=>by rw[hO k hk];rfl]
 congr 1
 rw[TC hq (V:=fun k=>CI (L-P) q k d) fun k hk=>by
  rw[Od (hO k hk)]
  unfold Fl
  rw[List.take_append_of_le_length (by rw[B'];omega),List.take_of_length_le (by rw[B'];omega)]]
 exact jN hq hd
end Go.Pw

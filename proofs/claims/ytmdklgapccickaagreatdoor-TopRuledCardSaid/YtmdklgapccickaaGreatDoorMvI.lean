/- A part of the proof. -/
import Derived.Test.YtmdklgapccickaaGreatDoorPgMvA
import Derived.Test.YtmdklgapccickaaGreatDoorPgMvH
import Derived.Test.YtmdklgapccickaaGreatDoorPgZonesSpec2
set_option linter.all false
open Go Go.Pw Go.Proofs
namespace Go.Pw
set_option maxRecDepth 100000
set_option maxHeartbeats 6400000
theorem GB:Bk E0.P E4=true:=by kernel_rfl
theorem G5:Bk E0.P Fw=true:=by kernel_rfl
def jv (z:Int) (x:Bu):Bool:=(decide (0<=x.id) && decide (x.id<=99)) && ((decide (0<=x.st) && decide (x.st<=9999)) && (decide (0<=x.sec) && decide (x.sec<z)))
attribute [local congr] Bm BC BD Ak Bn Aq Au Ar Aj Af AY AU Am AZ BR BS BP Ao An Ad Ap Ae BH BZ Ab BM BN BI BJ BL BK BF BG BB Bq BE Al Aa Ba Ag Av BQ
attribute [local irreducible] IntKind.wrap A0 Option.getD and or
theorem dH (l:List Bu) (hl:l.length<=1000):Cc E0 GD [.agg [.map TP (Wa l),.map oc (Nf l)]] (.bool false):=by
 refine AN IB Ay (by simp) fun hwf=>?_
 rw[AP];unfold Fk
 have h:¬(l.length:Int)<(l.length:Int):=by omega
 refine' Pb @U4 @SW h
 all_goals first|omega|rfl|trace_state
theorem TE (nl:Bool) (l:List Int) (lo hi:Int) (hl:l.length<=1000):Cc E0 GT [.list nl (BU l),.int .i64 lo,.int .i64 hi] (.bool (TF l lo hi)):=by
 refine AN Iz Ay (by simp) fun hwf=>?_
 rw[AP];unfold F7
 refine' HO
 all_goals try exact Ca
 refine Bh (α:=Nat) (fun x=>[(11,.d (.int .i64 (x:Int)))]) (fun x=>[]) (fun x=>x<=l.length/\∀j,j<x->VN l lo hi j=true) (fun x=>l.length-x) 0 ?hI1 ?step1
 case' step1=>(rintro i hI;try dsimp only at hI)
 case' hI1=>try dsimp only
 ·exact⟨by omega,fun j h=>absurd h (Nat.not_lt_zero j)⟩
 ·obtain⟨h1,h2⟩:=hI
  by_cases hi':i<l.length
  ·have hi2:(i:Int)<(l.length:Int):=by omega
   have wi:=Mi (i:=i) (by omega)
   have hnx:VN l lo hi i=true->∀j,j<i+1->VN l lo hi j=true:=fun hh j hj=>by
    by_cases hji:j=i
    ·subst hji;exact hh
    ·exact h2 j (by omega)
   have hbad:=lH (lo:=lo) (hi:=hi) hi'
   have hdef:VN l lo hi i=((decide (lo<=l[i]?.getD 0) && decide (l[i]?.getD 0<=hi)) && (decide (i=0) || decide (l[i-1]?.getD 0<l[i]?.getD 0))):=rfl
   obtain⟨v,hv⟩:∃v,l[i]?.getD 0=v:=⟨_,rfl⟩
   rw[hv] at hdef
   by_cases k1:v<lo
   ·rw[hbad (by rw[hdef,decide_eq_false (by omega)];simp)]
    refine' fY hi2 hi' hv k1
    all_goals first|omega|rfl|trace_state
   by_cases k2:hi<v
   ·rw[hbad (by rw[hdef,decide_eq_true (by omega),decide_eq_false (show ¬v<=hi by omega)];simp)]
    refine' Zg hi2 hi' hv k1 k2
    all_goals first|omega|rfl|trace_state
   rw[decide_eq_true (show lo<=v by omega),decide_eq_true (show v<=hi by omega),Bool.and_self,Bool.true_and] at hdef
   by_cases hz:i=0
   ·subst hz
    have hnx:=hnx (by rw[hdef];simp)
    refine' pf hi2 hi' hv k1 k2 wi
    all_goals first|omega|rfl|exact hnx|exact hnx _ (by assumption)|trace_state
   ·have hz':0<(i:Int):=by omega
    have wm:IntKind.i64.wrap ((i:Int)-1)=((i-1:Nat):Int):=by rw[Bd _ (by omega)];omega
    have hm:i-1<l.length:=by omega
    have hm':((i-1:Nat):Int)<(l.length:Int):=by omega
    obtain⟨u,hu⟩:∃u,l[i-1]?.getD 0=u:=⟨_,rfl⟩
    rw[hu,decide_eq_false hz,Bool.false_or] at hdef
    by_cases k3:v<=u
    ·rw[hbad (by rw[hdef,decide_eq_false (by omega)])]
     refine' PB hi2 hi' hv k1 k2 hz' wm (aI hm (aI hm' (aI hu k3)))
     all_goals first|omega|rfl|trace_state
    ·have hnx:=hnx (by rw[hdef,decide_eq_true (by omega)])
     refine' PB hi2 hi' hv k1 k2 hz' wm (aI hm (aI hm' (aI hu (aI k3 wi))))
     all_goals first|omega|rfl|exact hnx|exact hnx _ (by assumption)|trace_state
  ·have hi2:¬(i:Int)<(l.length:Int):=by omega
   rw[lI (fun j hj=>h2 j (by omega))]
   refine' K5 hi2
   all_goals first|omega|rfl|trace_state
theorem Yf (z:Int) (x:Bu):Cc E0 E4 [EX x,.ptr [.int .i64 z]] (.bool (jv z x)):=by
 refine AN OQ Ay (by simp) fun hwf=>?_
 rw[AP];unfold JE jv
 refine' Pc @EA @EB
 all_goals first|omega|(simp_all;done)|(simp_all;omega)|trace_state
theorem Ye (z:Int) (x:Bu):Cc E0 Fw [EX x,.ptr [.fn E4 [.ptr [.int .i64 z]]]] (.bool (!jv z x)):=by
 have c1:=Yf z x
 refine AN OP Ay (by simp) fun hwf=>?_
 rw[AP];unfold JD
 rw[EA,EB] at c1
 obtain⟨b,hb⟩:∃b,jv z x=b:=⟨_,rfl⟩
 rw[hb] at c1 ⊢
 cases b<;>refine' Gb @EA @EB @GB;repeat' first|(refine' CQ;(first|refine AG c1 ?_)<;>refine' Gb @EA @EB @GB)|refine' CP|done
 all_goals first|omega|rfl|(simp_all;done)|trace_state
theorem ZJ (nl:Bool) (xs:List Bu) (f:FuncId) (cs:List D) (p:Bu->Bool) (hb:Bk E0.P f=true) (hcs:BV AV.toD1 (cs.map .d)=some cs) (h:∀x,x∈xs->Cc E0 f (EX x::cs) (.bool (p x))) :
  Cc E0 DN [.list nl (CE xs),.fn f cs] (.int .i64 (match xs.findIdx? p with|some i=>i|none=>-1)):=by
 refine AN Eu Ay (by simp) fun hwf=>?_
 simp only[FL,Ea,EZ,EM,Fd,Fc,HI,Fb,CI,CX,CY,Eb,C9,List.length_map,CR,true_and,and_true,Bo] at hwf
 rw[AP];unfold DB
 simp -implicitDefEqProofs only[go_sem,Bo]
 refine B4 (α:=Int) (l0:=?l2) (m0:=?m2) (fun x=>[(8,.d (.int .i64 x))]) (fun x=>[]) (fun x=>0<=x/\x<=xs.length/\∀(j:Nat) (hj:j<xs.length),(j:Int)<x->p xs[j]=false) (fun x=>(xs.length-x).toNat) ?a2_0 ?h02 ?he2 ?he22 ?hI2 ?step2
 case h02=>(simp -implicitDefEqProofs only[go_sem,Bo];rfl)
 case he2=>rfl
 case he22=>rfl
 case' step2=>(rintro i hI;try dsimp only at hI)
 case' hI2=>try dsimp only
 ·simp
  omega
 ·refine' Zg @Bo @ES @Em @EA @EB
  all_goals try exact Ca
  ·have hx:xs[i.toNat]?.getD default=xs[i.toNat]'(by omega):=by rw[List.getElem?_eq_getElem (by omega),Option.getD_some]
   rw[hx]
   refine Y_ (h _ (List.getElem_mem _)) (Lq rfl hcs) (fun hp=>?_) (fun hp=>?_)
   ·simp -implicitDefEqProofs only[go_sem]
    have:xs.findIdx? p=some i.toNat:=by rw[List.findIdx?_eq_some_iff_getElem];exact⟨by omega,hp,fun j hj=>by simp[hI.2.2 j (by omega) (by omega)]⟩
    rw[this];simp;omega
   ·refine' K5 @Bo
    all_goals try exact Ca
    rename_i j hj hlt
    by_cases hjk:j=i.toNat
    ·subst hjk;exact hp
    ·exact hI.2.2 j hj (by omega)
  ·have:xs.findIdx? p=none:=by
    rw[List.findIdx?_eq_none_iff];intro x hx;obtain⟨j,hj,rfl⟩:=List.getElem_of_mem hx;exact hI.2.2 j hj (by omega)
   rw[this]
theorem TJ (nl:Bool) (xs:List Bu) (f:FuncId) (cs:List D) (p:Bu->Bool) (hb:Bk E0.P f=true) (hcs:BV AV.toD1 (cs.map .d)=some cs) (h:∀x,x∈xs->Cc E0 f (EX x::cs) (.bool (p x))) :
  Cc E0 C2 [.list nl (CE xs),.fn f cs] (.bool (xs.any p)):=by
 refine AN EY Ay (by simp) fun hwf=>?_
 rw[AP];unfold Cu
 simp -implicitDefEqProofs only[go_sem]
 refine HE (ZJ nl xs f cs p hb hcs h) rfl ?_
 simp -implicitDefEqProofs only[go_sem]
 have key:(0:Int)<=(match xs.findIdx? p with|some i=>(i:Int)|none=>-1)↔xs.any p=true:=by
  cases hf:xs.findIdx? p with
  |none=>rw[List.findIdx?_eq_none_iff] at hf;simp;intro x hx;simp[hf x hx]
  |some i=>rw[List.findIdx?_eq_some_iff_getElem] at hf;simp;exact⟨_,List.getElem_mem hf.1,hf.2.1⟩
 grind
theorem gH (f:F1) (h:f.Base):Cc E0 M6 [Yi f] (.int .i64 (if f.gr.any (fun x=>!Mt f x) then 30 else 0)):=by
 refine AN Q8 Ay (by simp) fun hwf=>?_
 have gd:=MQ h.d
 have hsz:=Xs gd
 have hsp:=h.sp;have hpl:=h.pl;have hgl:=h.gl
 have c1:=RU f.d
 unfold AX.check at c1
 rw[h.d,if_pos rfl,if_pos rfl] at c1
 have c2:=TE f.np f.pr 0 (f.d.size-1) (by omega)
 rw[h.pr] at c2
 have c3:=TJ f.ng f.gr Fw [.ptr [.fn E4 [.ptr [.int .i64 f.d.size]]]] (fun x=>!Mt f x) G5 rfl (fun x _=>Ye f.d.size x)
 have w1:IntKind.i64.wrap (f.d.size-1)=f.d.size-1:=Bd _ (by omega)
 have k1:¬f.sp<0:=by omega
 have k2:¬20<f.sp:=by omega
 have k3:¬(60:Int)<(f.pr.length:Int):=by omega
 have k4:¬(30:Int)<(f.gr.length:Int):=by omega
 obtain⟨b,hb⟩:∃b,f.gr.any (fun x=>!Mt f x)=b:=⟨_,rfl⟩
 rw[hb] at c3 ⊢
 rw[CB,Be] at c1
 rw[AP];unfold LP
 cases b
 ·refine' Gr @DG @DH @CB @Be @Bo w1 k1 (aI k2 (aI k3 (aI k4 (aI @GB @G5))));repeat' first|(refine' CQ;(first|refine AG c1 ?_|refine AG c2 ?_|refine AG c3 ?_)<;>refine' Gr @DG @DH @CB @Be @Bo w1 k1 (aI k2 (aI k3 (aI k4 (aI @GB @G5)))))|refine' CP|done
  all_goals first|omega|rfl|trace_state
 ·refine' Gr @DG @DH @CB @Be @Bo w1 k1 (aI k2 (aI k3 (aI k4 (aI @GB @G5))));repeat' first|(refine' CQ;(first|refine AG c1 ?_|refine AG c2 ?_|refine AG c3 ?_)<;>refine' Gr @DG @DH @CB @Be @Bo w1 k1 (aI k2 (aI k3 (aI k4 (aI @GB @G5)))))|refine' CP|done
  all_goals first|omega|rfl|trace_state
theorem Pf (f:F1) (h:f.Base) (hd:f.gr.Pairwise fun a b=>a.id≠b.id):Cc E0 L4 [Yi f] (.int .i64 (if f.gr.any (fun x=>!Mt f x) then 30 else 0)):=by
 refine AN Pz Ay (by simp) fun hwf=>?_
 have hgl:=h.gl
 have c1:=gH f h
 have hfl:flat [(f.ng,f.gr)]=f.gr:=by simp[flat]
 have c2:=Qc false [(f.ng,f.gr)] (by simp) (by rw[hfl];omega) (by rw[hfl];exact hd)
 rw[hfl] at c2
 have c3:=dH f.gr (by omega)
 change Cc E0 _ [.list false [.list f.ng (CE f.gr)]] _ at c2
 obtain⟨b,hb⟩:∃b,f.gr.any (fun x=>!Mt f x)=b:=⟨_,rfl⟩
 rw[hb] at c1 ⊢
 rw[DG,DH] at c1
 rw[AP];unfold KW
 cases b
 ·rw[if_neg (by simp)] at c1 ⊢
  refine' HR @DG @DH;repeat' first|(refine' CQ;(first|refine AG c1 ?_|refine AG c2 ?_|refine AG c3 ?_)<;>refine' HR @DG @DH)|refine' CP|done
  all_goals first|omega|rfl|trace_state
 ·rw[if_pos rfl] at c1 ⊢
  refine' HR @DG @DH;repeat' first|(refine' CQ;(first|refine AG c1 ?_|refine AG c2 ?_|refine AG c3 ?_)<;>refine' HR @DG @DH)|refine' CP|done
  all_goals first|omega|rfl|trace_state
end Go.Pw

/- A part of the proof. -/
import Derived.Test.YtmdklgapccickaaGreatDoorPgMvChcD
import Derived.Test.YtmdklgapccickaaGreatDoorPgMvChJ
set_option linter.all false
open Go Go.Pw Go.Proofs
namespace Go.Pw
set_option maxRecDepth 100000
set_option maxHeartbeats 6400000
section
theorem rN {a m:Int}{l:List Int}{z:Int}{o:Bool}:fB a m (0::l) z o=if m<z+1 then ((z+1,o),false) else fB a m l (z+1) o:=by rw[fB,if_pos rfl]
theorem rM {a m:Int}{l:List Int}{z:Int}{o:Bool}:fB a m (1::l) z o=if o=true/\z<a then ((z,o),false) else fB a m l 0 true:=by rw[fB,if_neg (by decide)]
theorem qr {a m:Int}{l:List Int}{z:Int}{o:Bool}:sB a m (0::l) z o=if m<z+1 then none else sB a m l (z+1) o:=by rw[sB,if_pos rfl]
theorem qq {a m:Int}{l:List Int}{z:Int}{o:Bool}:sB a m (1::l) z o=if o=true/\z<a then none else sB a m l 0 true:=by rw[sB,if_neg (by decide)]
theorem T6 {l:List Int}{i:Int}(h0:0<=i) (h:i<l.length):l.drop i.toNat=(l[i.toNat]?.getD 0)::l.drop (i+1).toNat:=by
 rw[show (i+1).toNat=i.toNat+1 by omega];exact JW (by omega)
theorem iu {c:GCode}{r:Cf}{w:Int}{F:(Int×Bool)×Bool}(h:fB c.least c.most (B8 c.out.toNat (c.wrd r.1 w)) r.2.1 r.2.2=F):c.stepR r w=if F.2 then ((c.nxt r.1 w,F.1.1,F.1.2),true) else ((r.1,F.1.1,F.1.2),false):=by
 unfold GCode.stepR;rw[h]
attribute [local congr] Bm BC BD Ak Bn Aq Au Ar Aj Af AY AU Am AZ BR BS BP Ao An Ad Ap Ae BH BZ Ab BM BN BI BJ BL BK BF BG BB Bq BE Al Aa Ba Ag Av BQ
attribute [local irreducible] IntKind.wrap A0 Option.getD and or
theorem HQ (c:GCode) (h:c.ok=true) (r:Cf) (hr:c.RunOk r) (w:Int) (hw:c.isWord w=true):Cc E0 Io [Fo c,PL r,.int .i64 w] (.tup [PL (c.stepR r w).1,.bool (c.stepR r w).2]):=by
 refine AN Mc Ay (by simp) fun hwf=>?_
 have hd:=GCode.ok_head h
 obtain⟨rs,rz,ro⟩:=r
 obtain⟨r1,r2,r3⟩:=hr
 simp only at r1 r2 r3
 have cb:=Fh c rs w h r1 hw
 have hx01:=dQ c.out.toNat (c.wrd rs w)
 have hxl:=Fp c.out.toNat (c.wrd rs w)
 obtain⟨F,hF⟩:∃F,fB c.least c.most (B8 c.out.toNat (c.wrd rs w)) rz ro=F:=⟨_,rfl⟩
 have hst:=iu (r:=(rs,rz,ro)) (w:=w) hF
 rw[hst]
 simp only at hst ⊢
 have h12:=Jt (b:=c.bits) (by omega)
 have hrow:=GCode.ok_next h rs.toNat (by simp only[GCode.isState,DE,decide_eq_true_eq] at r1;omega)
 have hs':=r1
 simp only[GCode.isState,DE,decide_eq_true_eq] at hs'
 have hw':=hw
 simp only[GCode.isWord,DE,decide_eq_true_eq] at hw'
 obtain⟨N,hN⟩:∃N,c.nxt rs w=N:=⟨_,rfl⟩
 rw[hN]
 generalize B8 c.out.toNat (c.wrd rs w)=xs at *
 rw[AP];unfold Hp
 refine' MR @AR @AQ @FC @FD;repeat' first|(refine' CQ;(first|refine AG cb ?_)<;>refine' MR @AR @AQ @FC @FD)|refine' CP|done
 all_goals try exact Ca
 refine Bh (α:=Int×Int×Bool) (fun x=>[(16,.d (.int .i64 x.1))]) (fun x=>[(4,.cells [.d (.int .i64 rs),.d (.int .i64 x.2.1),.d (.bool x.2.2)])]) (fun x=>(0<=x.1/\x.1<=xs.length)/\(0<=x.2.1/\x.2.1<=c.most)/\fB c.least c.most (xs.drop x.1.toNat) x.2.1 x.2.2=F) (fun x=>(xs.length-x.1).toNat) (?a1_0,?a1_1,?a1_2) ?hI1 ?step1
 case' step1=>(rintro⟨i,z,o⟩ hI;try dsimp only at hI)
 case' hI1=>try dsimp only
 ·exact⟨⟨by omega,by omega⟩,⟨r2,r3⟩,hF⟩
 ·obtain⟨⟨q1,q2⟩,⟨q3,q4⟩,q5⟩:=hI
  by_cases hi:i<xs.length
  ·have w1:IntKind.i64.wrap (i+1)=i+1:=Bd _ (by omega)
   have w2:IntKind.i64.wrap (z+1)=z+1:=Bd _ (by omega)
   rw[T6 q1 hi] at q5
   have hb:=hx01 _ (FV (l:=xs) (i:=i.toNat) (by omega))
   obtain⟨b,hbb⟩:∃b,xs[i.toNat]?.getD 0=b:=⟨_,rfl⟩
   rw[hbb] at q5 hb
   rcases hb with rfl|rfl
   ·rw[rN] at q5
    by_cases hm:c.most<z+1
    ·rw[if_pos hm] at q5
     subst q5
     refine' PB @AR @AQ @FC @FD hbb hi q1 (aI w1 (aI w2 hm))
     all_goals first|omega|rfl|(simp;done)|trace_state
    ·rw[if_neg hm] at q5
     refine' PB @AR @AQ @FC @FD hbb hi q1 (aI w1 (aI w2 hm))
     all_goals first|omega|rfl|exact q5|(simp;done)|trace_state
   ·rw[rM] at q5
    have hm:¬c.most<z:=by omega
    by_cases ho:o=true
    ·subst ho
     by_cases hl:z<c.least
     ·rw[if_pos ⟨rfl,hl⟩] at q5
      subst q5
      refine' PB @AR @AQ @FC @FD hbb hi q1 (aI w1 (aI w2 (aI hm hl)))
      all_goals first|omega|rfl|(simp;done)|trace_state
     ·rw[if_neg (fun hh=>hl hh.2)] at q5
      refine' PB @AR @AQ @FC @FD hbb hi q1 (aI w1 (aI w2 (aI hm hl)))
      all_goals first|omega|rfl|exact q5|(simp;done)|trace_state
    ·have ho':o=false:=by cases o with|true=>exact absurd rfl ho|false=>rfl
     subst ho'
     rw[if_neg (fun hh=>ho hh.1)] at q5
     refine' PB @AR @AQ @FC @FD hbb hi q1 (aI w1 (aI w2 hm))
     all_goals first|omega|rfl|exact q5|(simp;done)|trace_state
  ·rw[List.drop_eq_nil_of_le (by omega),fB] at q5
   subst q5
   have s1:rs<c.next.length:=by omega
   have s2:rs.toNat<c.next.length:=by omega
   have s3:=hs'.1
   have hnc:((2^c.bits.toNat:Nat):Int)=2^c.bits.toNat:=by simp
   have s4:w<((c.next[rs.toNat]?.getD default).2.length:Int):=by rw[hrow.1];omega
   have s5:=hw'.1
   have hN':(c.next[rs.toNat]?.getD default).2[w.toNat]?.getD 0=N:=hN
   have s6:w.toNat<(c.next[rs.toNat]?.getD default).2.length:=by omega
   refine' PB @AR @AQ @Ax @DF @FC @FD hi (aI s1 (aI s2 (aI s3 (aI s4 (aI s5 (aI s6 hN'))))))
   all_goals first|omega|rfl|(simp;done)|trace_state
theorem Qu (c:GCode) (h:0<=c.most/\c.most<=12) (nl:Bool) (xs:List Int) (hx:∀b,b∈xs->b=0\/b=1):Cc E0 M4 [Fo c,.list nl (BU xs)] (.bool (c.keeps xs)):=by
 refine AN Q6 Ay (by simp) fun hwf=>?_
 simp only[FL,Ea,EZ,EM,Fd,Fc,HI,Fb,CI,CX,CY,Eb,C9,List.length_map,CR,true_and,and_true] at hwf
 obtain⟨K,hK⟩:∃K,c.keeps xs=K:=⟨_,rfl⟩
 rw[hK]
 unfold GCode.keeps at hK
 rw[AP];unfold LN
 refine' Pc @AR @AQ
 all_goals try exact Ca
 refine Bh (α:=Int×Int×Bool) (fun x=>[(7,.d (.int .i64 x.1)),(5,.d (.int .i64 x.2.1)),(6,.d (.bool x.2.2))]) (fun x=>[]) (fun x=>(0<=x.1/\x.1<=xs.length)/\(0<=x.2.1/\x.2.1<=c.most)/\(sB c.least c.most (xs.drop x.1.toNat) x.2.1 x.2.2).isSome=K) (fun x=>(xs.length-x.1).toNat) (?a2_0,?a2_1,?a2_2) ?hI2 ?step2
 case' step2=>(rintro⟨i,z,o⟩ hI;try dsimp only at hI)
 case' hI2=>try dsimp only
 ·exact⟨⟨by omega,by omega⟩,⟨by omega,by omega⟩,hK⟩
 ·obtain⟨⟨q1,q2⟩,⟨q3,q4⟩,q5⟩:=hI
  by_cases hi:i<xs.length
  ·have w1:IntKind.i64.wrap (i+1)=i+1:=Bd _ (by omega)
   have w2:IntKind.i64.wrap (z+1)=z+1:=Bd _ (by omega)
   rw[T6 q1 hi] at q5
   have hb:=hx _ (FV (l:=xs) (i:=i.toNat) (by omega))
   obtain⟨b,hbb⟩:∃b,xs[i.toNat]?.getD 0=b:=⟨_,rfl⟩
   rw[hbb] at q5 hb
   rcases hb with rfl|rfl
   ·rw[qr] at q5
    by_cases hm:c.most<z+1
    ·rw[if_pos hm] at q5
     subst q5
     refine' PB @AR @AQ hbb hi q1 w1 w2 hm
     all_goals first|omega|rfl|(simp;done)|trace_state
    ·rw[if_neg hm] at q5
     refine' PB @AR @AQ hbb hi q1 w1 w2 hm
     all_goals first|omega|rfl|exact q5|(simp;done)|trace_state
   ·rw[qq] at q5
    by_cases ho:o=true
    ·subst ho
     by_cases hl:z<c.least
     ·rw[if_pos ⟨rfl,hl⟩] at q5
      subst q5
      refine' PB @AR @AQ hbb hi q1 w1 w2 hl
      all_goals first|omega|rfl|(simp;done)|trace_state
     ·rw[if_neg (fun hh=>hl hh.2)] at q5
      refine' PB @AR @AQ hbb hi q1 w1 w2 hl
      all_goals first|omega|rfl|exact q5|(simp;done)|trace_state
    ·have ho':o=false:=by cases o with|true=>exact absurd rfl ho|false=>rfl
     subst ho'
     rw[if_neg (fun hh=>ho hh.1)] at q5
     refine' rv @AR @AQ hbb hi q1 w1 w2
     all_goals first|omega|rfl|exact q5|(simp;done)|trace_state
  ·rw[List.drop_eq_nil_of_le (by omega),sB] at q5
   subst q5
   refine' Pb @AR @AQ hi
   all_goals first|omega|rfl|trace_state
end
section
abbrev lS:HS:=(true,[some .i64,some .i64,none])
theorem NP (a z:Int) (o:Bool) (m:Fq):CG (.agg [.int .i64 a,.int .i64 z,.bool o]) (Ek m)=(FY (a,z,o) m).map (.int .i64):=bV (a,z,o) m
theorem am (a z:Int) (o:Bool):Dl (.agg [.int .i64 a,.int .i64 z,.bool o]) (.agg [.int .i64 a,.int .i64 z,.bool o])=true:=(MM (a,z,o) (a,z,o)).trans (by simp)
theorem WW {k v:D}{l:List (D×D)}(h:CG k l=none) (hk:Dl k k=true):CG k (l++[(k,v)])=some v:=by
 induction l with
 |nil=>simp[CG,hk]
 |cons e l ih =>
  simp only[CG] at h
  split at h
  ·cases h
  ·rename_i hne;simp only[List.cons_append,CG,hne];exact ih h
theorem YX {k:D}{l:List (D×D)}(h:CG k l=none):D6 k l=none:=by
 induction l with
 |nil=>rfl
 |cons e l ih =>
  simp only[CG] at h
  split at h
  ·cases h
  ·rename_i hne;simp only[D6,hne,ih h];rfl
theorem WS (m:Fq):(Ek m).length=m.length:=by simp[Ek]
theorem Tt (m:Fq) (a z:Int) (o:Bool) (v:Int):Ek m++[(.agg [.int .i64 a,.int .i64 z,.bool o],.int .i64 v)]=Ek (m++[((a,z,o),v)]):=by simp[Ek,SD,PL,ei]
theorem eV {k:Cf}{m:Fq}(h:FY k m=none) (v:Int):HY k v m=m++[(k,v)]:=by
 induction m with
 |nil=>rfl
 |cons e m ih =>
  rw[FY] at h
  split at h
  ·cases h
  ·rename_i hne;rw[HY,if_neg hne,ih h];rfl
theorem Tn {k:Cf}{v:Int}:∀{m:Fq},FY k m=some v->∃i,D6 (PL k) (Ek m)=some i/\i<m.length/\(Ek m)[i]?=some (PL k,.int .i64 v)/\∀v',(Ek m).set i (PL k,.int .i64 v')=Ek (HY k v' m)
 |[],h=>by cases h
 |e::m,h=>by
  rw[FY] at h
  by_cases he:k=e.1
  ·rw[if_pos he] at h;cases h
   refine⟨0,?_,by simp,?_,fun v'=>?_⟩
   ·simp[Ek,D6,SD,MM,he]
   ·simp[Ek,SD,he]
   ·simp[Ek,HY,SD,he]
  ·rw[if_neg he] at h
   obtain⟨i,h1,h2,h3,h4⟩:=Tn h
   refine⟨i+1,?_,by simp;omega,?_,fun v'=>?_⟩
   ·simp only[Ek] at h1
    simp[Ek,D6,SD,MM,he,h1]
   ·simpa[Ek] using h3
   ·rw[HY,if_neg he]
    have:=h4 v'
    simp only[Ek] at this
    simp[Ek,this]
def hC:PC :=
 .any [] (.both (.step (AA 48 8) (.step (AI 49 0 10) (.step (AB 50 (.load true 3) 49) (.both (.step (AD 51 (.lookup false (true,[some .i64,some .i64,none]) (.int .i64 0)) 48 50) (.both (.step (AH 52 (.bin .add) 51 1) (.step (AD 53 (.mapent (true,[some .i64,some .i64,none]) (.int .i64 0)) 48 50) (.step (Ai 54 1 53) (.step (BO .entst [.t 48,.t 54,.t 52]) (.done))))) (.step (AD 53 (.mapent (true,[some .i64,some .i64,none]) (.int .i64 0)) 48 50) (.both (.step (AH 52 (.bin .add) 51 1) (.step (Ai 54 1 53) (.step (BO .entst [.t 48,.t 54,.t 52]) (.done)))) (.step (Ai 54 1 53) (.step (AH 52 (.bin .add) 51 1) (.step (BO .entst [.t 48,.t 54,.t 52]) (.done)))))))) (.step (AD 53 (.mapent (true,[some .i64,some .i64,none]) (.int .i64 0)) 48 50) (.both (.step (AD 51 (.lookup false (true,[some .i64,some .i64,none]) (.int .i64 0)) 48 50) (.both (.step (AH 52 (.bin .add) 51 1) (.step (Ai 54 1 53) (.step (BO .entst [.t 48,.t 54,.t 52]) (.done)))) (.step (Ai 54 1 53) (.step (AH 52 (.bin .add) 51 1) (.step (BO .entst [.t 48,.t 54,.t 52]) (.done)))))) (.step (Ai 54 1 53) (.step (AD 51 (.lookup false (true,[some .i64,some .i64,none]) (.int .i64 0)) 48 50) (.step (AH 52 (.bin .add) 51 1) (.step (BO .entst [.t 48,.t 54,.t 52]) (.done))))))))))) (.step (AI 49 0 10) (.both (.step (AA 48 8) (.step (AB 50 (.load true 3) 49) (.both (.step (AD 51 (.lookup false (true,[some .i64,some .i64,none]) (.int .i64 0)) 48 50) (.both (.step (AH 52 (.bin .add) 51 1) (.step (AD 53 (.mapent (true,[some .i64,some .i64,none]) (.int .i64 0)) 48 50) (.step (Ai 54 1 53) (.step (BO .entst [.t 48,.t 54,.t 52]) (.done))))) (.step (AD 53 (.mapent (true,[some .i64,some .i64,none]) (.int .i64 0)) 48 50) (.both (.step (AH 52 (.bin .add) 51 1) (.step (Ai 54 1 53) (.step (BO .entst [.t 48,.t 54,.t 52]) (.done)))) (.step (Ai 54 1 53) (.step (AH 52 (.bin .add) 51 1) (.step (BO .entst [.t 48,.t 54,.t 52]) (.done)))))))) (.step (AD 53 (.mapent (true,[some .i64,some .i64,none]) (.int .i64 0)) 48 50) (.both (.step (AD 51 (.lookup false (true,[some .i64,some .i64,none]) (.int .i64 0)) 48 50) (.both (.step (AH 52 (.bin .add) 51 1) (.step (Ai 54 1 53) (.step (BO .entst [.t 48,.t 54,.t 52]) (.done)))) (.step (Ai 54 1 53) (.step (AH 52 (.bin .add) 51 1) (.step (BO .entst [.t 48,.t 54,.t 52]) (.done)))))) (.step (Ai 54 1 53) (.step (AD 51 (.lookup false (true,[some .i64,some .i64,none]) (.int .i64 0)) 48 50) (.step (AH 52 (.bin .add) 51 1) (.step (BO .entst [.t 48,.t 54,.t 52]) (.done)))))))))) (.step (AB 50 (.load true 3) 49) (.step (AA 48 8) (.both (.step (AD 51 (.lookup false (true,[some .i64,some .i64,none]) (.int .i64 0)) 48 50) (.both (.step (AH 52 (.bin .add) 51 1) (.step (AD 53 (.mapent (true,[some .i64,some .i64,none]) (.int .i64 0)) 48 50) (.step (Ai 54 1 53) (.step (BO .entst [.t 48,.t 54,.t 52]) (.done))))) (.step (AD 53 (.mapent (true,[some .i64,some .i64,none]) (.int .i64 0)) 48 50) (.both (.step (AH 52 (.bin .add) 51 1) (.step (Ai 54 1 53) (.step (BO .entst [.t 48,.t 54,.t 52]) (.done)))) (.step (Ai 54 1 53) (.step (AH 52 (.bin .add) 51 1) (.step (BO .entst [.t 48,.t 54,.t 52]) (.done)))))))) (.step (AD 53 (.mapent (true,[some .i64,some .i64,none]) (.int .i64 0)) 48 50) (.both (.step (AD 51 (.lookup false (true,[some .i64,some .i64,none]) (.int .i64 0)) 48 50) (.both (.step (AH 52 (.bin .add) 51 1) (.step (Ai 54 1 53) (.step (BO .entst [.t 48,.t 54,.t 52]) (.done)))) (.step (Ai 54 1 53) (.step (AH 52 (.bin .add) 51 1) (.step (BO .entst [.t 48,.t 54,.t 52]) (.done)))))) (.step (Ai 54 1 53) (.step (AD 51 (.lookup false (true,[some .i64,some .i64,none]) (.int .i64 0)) 48 50) (.step (AH 52 (.bin .add) 51 1) (.step (BO .entst [.t 48,.t 54,.t 52]) (.done))))))))))))) [3,5,7,8,10]
attribute [local congr] Bm BC BD Ak Bn Aq Au Ar Aj Af AY AU Am AZ BR BS BP Ao An Ad Ap Ae BH BZ Ab BM BN BI BJ BL BK BF BG BB Bq BE Al Aa Ba Ag Av BQ
attribute [local irreducible] IntKind.wrap A0 Option.getD and or
theorem g_ {P:B7->Bg->Prop}{q1 q2:List D}{a z s0:Int}{o:Bool}{dd:D}{x3 x5 x10:List AV}{m:Fq}(hm:m.length<=1000) (hl:FY (a,z,o) m=none)
  (hk:P .normal ⟨EC [(3,.ptr 3 0 0),(5,.ptr 5 0 0),(7,.own 38 1),(8,.map 23 0),(10,.ptr 10 1 0)],⟨Bt [(23,(0,.map lS (Ek (m++[((a,z,o),1)])))),(23,(0,.map lS (Ek (m++[((a,z,o),0)])))),(38,(1,.row 94 5 false q1)),(10,(1,.cells [.d (.int .i64 a),.d (.int .i64 z),.d (.bool o),.d (.int .i64 s0),.d dd])),(10,(1,.cells x10)),(3,(0,.cells x3)),(5,(0,.cells x5)),(23,(0,.map lS (Ek m))),(38,(0,.row 94 5 false q2))],CO (CO (fun _=>1) 10 2) 38 2⟩⟩) :
  pw E0 hC P ⟨EC [(3,.ptr 3 0 0),(5,.ptr 5 0 0),(7,.own 38 1),(8,.map 23 0),(10,.ptr 10 1 0)],⟨Bt [(38,(1,.row 94 5 false q1)),(10,(1,.cells [.d (.int .i64 a),.d (.int .i64 z),.d (.bool o),.d (.int .i64 s0),.d dd])),(10,(1,.cells x10)),(3,(0,.cells x3)),(5,(0,.cells x5)),(23,(0,.map lS (Ek m))),(38,(0,.row 94 5 false q2))],CO (CO (fun _=>1) 10 2) 38 2⟩⟩:=by
 have h1:=NP a z o m
 rw[hl] at h1
 have h1':CG (.agg [.int .i64 a,.int .i64 z,.bool o]) (Ek m)=none:=h1
 have h2:=YX h1'
 have h3:=WW (v:=.int .i64 0) h1' (am a z o)
 have h4:(Ek m++[(D.agg [.int .i64 a,.int .i64 z,.bool o],D.int .i64 0)])[(Ek m).length]?=some (D.agg [.int .i64 a,.int .i64 z,.bool o],D.int .i64 0):=by simp
 have h5:(Ek m++[(D.agg [.int .i64 a,.int .i64 z,.bool o],D.int .i64 0)]).set (Ek m).length (D.agg [.int .i64 a,.int .i64 z,.bool o],D.int .i64 1)=Ek (m++[((a,z,o),1)]):=by rw[←Tt];simp
 have h6:=WS m
 have w1:IntKind.i64.wrap (0+1)=1:=Bd _ (by omega)
 rw[←Tt m a z o 0] at hk
 unfold hC
 refine' pf h1' h2 h3 h4 h5 w1
 all_goals first|omega|exact hk|(rw[h5];exact hk)|trace_state
theorem g9 {P:B7->Bg->Prop}{q1 q2:List D}{a z s0:Int}{o:Bool}{dd:D}{x3 x5 x10:List AV}{m:Fq}(hm:m.length<=1000) {v:Int}(hv:1<=v/\v<=1000) (hl:FY (a,z,o) m=some v)
  (hk:P .normal ⟨EC [(3,.ptr 3 0 0),(5,.ptr 5 0 0),(7,.own 38 1),(8,.map 23 0),(10,.ptr 10 1 0)],⟨Bt [(23,(0,.map lS (Ek (HY (a,z,o) (v+1) m)))),(38,(1,.row 94 5 false q1)),(10,(1,.cells [.d (.int .i64 a),.d (.int .i64 z),.d (.bool o),.d (.int .i64 s0),.d dd])),(10,(1,.cells x10)),(3,(0,.cells x3)),(5,(0,.cells x5)),(23,(0,.map lS (Ek m))),(38,(0,.row 94 5 false q2))],CO (CO (fun _=>1) 10 2) 38 2⟩⟩) :
  pw E0 hC P ⟨EC [(3,.ptr 3 0 0),(5,.ptr 5 0 0),(7,.own 38 1),(8,.map 23 0),(10,.ptr 10 1 0)],⟨Bt [(38,(1,.row 94 5 false q1)),(10,(1,.cells [.d (.int .i64 a),.d (.int .i64 z),.d (.bool o),.d (.int .i64 s0),.d dd])),(10,(1,.cells x10)),(3,(0,.cells x3)),(5,(0,.cells x5)),(23,(0,.map lS (Ek m))),(38,(0,.row 94 5 false q2))],CO (CO (fun _=>1) 10 2) 38 2⟩⟩:=by
 have h1:=NP a z o m
 rw[hl] at h1
 have h1':CG (.agg [.int .i64 a,.int .i64 z,.bool o]) (Ek m)=some (.int .i64 v):=h1
 obtain⟨i,h2,h3,h4,h5⟩:=Tn hl
 have h2':D6 (.agg [.int .i64 a,.int .i64 z,.bool o]) (Ek m)=some i:=h2
 have h4':(Ek m)[i]?=some (.agg [.int .i64 a,.int .i64 z,.bool o],.int .i64 v):=h4
 have h5':(Ek m).set i (.agg [.int .i64 a,.int .i64 z,.bool o],.int .i64 (v+1))=Ek (HY (a,z,o) (v+1) m):=h5 (v+1)
 have h6:=WS m
 have w1:IntKind.i64.wrap (v+1)=v+1:=Bd _ (by omega)
 unfold hC
 refine' Zg h1' h2' h4' h5' w1
 all_goals first|omega|exact hk|(rw[h5'];exact hk)|trace_state
end
section
theorem UT (l:List Eh) (a z s:Int) (o:Bool):Ec l++[.agg [.int .i64 a,.int .i64 z,.bool o,.int .i64 s,.list true []]]=Ec (l++[((a,z,o),s,[])]):=by simp[Ec,TR,BU]
theorem HX (l:List Eh) (a z s:Int) (o:Bool) (d:List Int) (w:Int):Ec l++[.agg [.int .i64 a,.int .i64 z,.bool o,.int .i64 s,.list false (BU (d++[w]))]]=Ec (l++[((a,z,o),s,d++[w])]):=by simp[Ec,TR,BU]
theorem WE (c:GCode) (i:Int) (h0:0<=i) (h:i<c.words.length):c.queue0.take (i+1).toNat=c.queue0.take i.toNat++[((i,0,false),i,[])]:=by
 rw[show (i+1).toNat=i.toNat+1 by omega,List.take_add_one]
 congr 1
 unfold GCode.queue0 GCode.starts
 simp[show i.toNat<c.words.length by omega]
 omega
def GCode.holdsT (c:GCode):D:=if c.ok then c.holdsD else .tup [.bool false,.agg [.int .i64 0,.list true []],.int .i64 40]
def LI:PC :=
 .seq (.reg [] (AB 1 .box 0::Bc 2 false::AF 3 (.zero [.int .i64 0,.list true []]) []::AO 4 0::[]) [1,3]) (.seq (.reg [] (AB 15 (.load true 6) 1::AB 16 (.build [.int .i64 0,.int .i64 0,.int .i64 0,.int .i64 0,.list true [],.list true []] [(0,6)]) 15::AF 5 (.zero [.int .i64 0,.int .i64 0,.int .i64 0,.int .i64 0,.list true [],.list true []]) []::BO (.store 6) [.t 5,.t 16]::[]) [1,3,5]) (.seq (.seq (.reg [] (AB 17 (.load true 6) 1::AB 18 (.call 37) 17::AA 6 18::[]) [3,5,6]) (.seq (.reg [] (AA 19 6::AH 20 (.bin .neq) 19 0::[]) [3,5,6,20]) (.cond (.t 20) (.seq (.reg [] (AF 21 (.build [.int .i64 0,.list true []] []) []::AA 22 6::Bc 2 false::BO (.store 2) [.t 3,.t 21]::AA 4 22::[]) [2,3,4]) (.ret)) (.skip)))) (.seq (.reg [] (AF 7 .mov [.k (.d (.list true []))]::[]) [3,5,7]) (.seq (.reg [] (AF 23 (.mkmap (true,[some .i64,some .i64,none])) []::AA 8 23::[]) [3,5,7,8]) (.seq (.seq (.reg [] (AI 24 0 5::AI 25 4 24::AJ 26 1 25::AB 27 (.len false) 26::AO 28 0::[]) [3,5,7,8,27,28]) (.block 0 (.loop [.own 7 38 94 5] [3,5,7,8,27,28] [3,5,23,38,68,71,96,10068,900000,901000] (.seq (.reg [] (AD 29 (.bin .lss) 28 27::[]) [3,5,7,8,27,28,29]) (.seq (.cond (.t 29) (.skip) (.exit 0)) (.seq (.block 1 (.seq (.reg [] (AA 30 28::AA 9 30::[]) [3,5,7,8,9,27,28]) (.reg [] (AA 31 7::AA 32 9::AB 33 (.build [.int .i64 0,.int .i64 0,.bool false] [(0,1)]) 32::AA 34 9::AB 35 (.build [.int .i64 0,.list true []] [(0,1)]) 34::AD 36 (.build [.int .i64 0,.int .i64 0,.bool false,.int .i64 0,.list true []] [(0,3),(3,2)]) 33 35::AB 37 (.mkrow 5 (.agg [.int .i64 0,.int .i64 0,.bool false,.int .i64 0,.list true []]) 1 [0]) 36::AD 38 (.app 94 5 none true) 31 37::AA 7 38::[]) [3,5,7,8,27,28]))) (.reg [] (AH 39 (.bin .add) 28 1::AA 28 39::[]) [3,5,7,8,27,28]))))))) (.seq (.block 2 (.loop [] [3,5,7,8] [3,5,23,38,68,71,96,10068,900000,901000] (.seq (.seq (.reg [] (AA 40 7::AB 41 (.len false) 40::AH 42 (.bin .gtr) 41 0::[]) [3,5,7,8,42]) (.cond (.t 42) (.skip) (.exit 2))) (.block 3 (.seq (.reg [] (AA 43 7::AH 44 (.iaddrS 5) 43 0::AB 45 (.load true 5) 44::AF 10 (.zero [.int .i64 0,.int .i64 0,.bool false,.int .i64 0,.list true []]) []::BO (.store 5) [.t 10,.t 45]::[]) [3,5,7,8,10]) (.seq (.reg [] (AA 46 7::AH 47 (.slice 5 true false false) 46 1::AA 7 47::[]) [3,5,7,8,10]) (.seq hC (.seq (.seq (.reg [] (AA 55 8::AI 56 0 10::AB 57 (.load true 3) 56::AD 58 (.lookup false (true,[some .i64,some .i64,none]) (.int .i64 0)) 55 57::AH 59 (.bin .gtr) 58 1::[]) [3,5,7,8,10,59]) (.cond (.t 59) (.exit 3) (.skip))) (.seq (.reg [] (AB 60 (.load true 6) 5::AB 61 (.call 38) 60::AO 62 0::[]) [3,5,7,8,10,61,62]) (.block 4 (.loop [] [3,5,7,8,10,61,62] [3,5,10,23,38,61,68,71,96,10061,10068,900000,901000] (.seq (.reg [] (AD 63 (.bin .lss) 62 61::[]) [3,5,7,8,10,61,62,63]) (.seq (.cond (.t 63) (.skip) (.exit 4)) (.seq (.block 5 (.seq (.reg [] (AA 64 62::AA 11 64::[]) [3,5,7,8,10,11,61,62]) (.seq (.reg [] (AI 65 3 10::AI 66 1 65::AJ 67 1 66::AB 68 (.call 35) 67::AA 69 11::AB 70 (.mkrow 1 (.int .i64 0) 1 [0]) 69::AD 71 (.app 3 1 none true) 68 70::AA 12 71::[]) [3,5,7,8,10,11,12,61,62]) (.seq (.reg [] (AB 73 (.load true 6) 5::AI 74 0 10::AB 75 (.load true 3) 74::AA 76 11::AF 77 (.call 39) [.t 73,.t 75,.t 76]::AA 72 77::Ai 78 0 72::Ai 79 1 72::AF 13 (.zero [.int .i64 0,.int .i64 0,.bool false]) []::BO (.store 3) [.t 13,.t 78]::AA 14 79::[]) [3,5,7,8,10,12,13,14,61,62]) (.seq (.seq (.reg [] (AA 80 14::AB 81 (.un .not) 80::[]) [3,5,7,8,10,12,13,61,62,81]) (.cond (.t 81) (.seq (.draw [.freeze 12] ((AI 82 3 10,[])::(AI 83 0 82,[])::(AJ 84 1 83,[])::(AA 85 12,[])::(AD 86 (.build [.int .i64 0,.list true []] [(0,1),(1,1)]) 84 85,[])::(Bc 2 false,[])::(BO (.store 2) [.t 3,.t 86],[])::(AO 4 0,[])::[]) [2,3,4]) (.ret)) (.skip))) (.reg [.freeze 12] (AA 87 7::AB 88 (.load true 3) 13::AI 89 3 10::AI 90 0 89::AJ 91 1 90::AA 92 12::AD 93 (.build [.int .i64 0,.list true []] [(0,1),(1,1)]) 91 92::AD 94 (.build [.int .i64 0,.int .i64 0,.bool false,.int .i64 0,.list true []] [(0,3),(3,2)]) 88 93::AB 95 (.mkrow 5 (.agg [.int .i64 0,.int .i64 0,.bool false,.int .i64 0,.list true []]) 1 [0]) 94::AD 96 (.app 94 5 none true) 87 95::AA 7 96::[]) [3,5,7,8,10,61,62])))))) (.reg [] (AH 97 (.bin .add) 62 1::AA 62 97::[]) [3,5,7,8,10,61,62]))))))))))))))) (.seq (.reg [] (AF 98 (.build [.int .i64 0,.list true []] []) []::Bc 2 true::BO (.store 2) [.t 3,.t 98]::AO 4 0::[]) [2,3,4]) (.ret))))))))
theorem Qz:Cx E0 M8 LI [.t 2,.c 3 39 true 2,.t 4] 99:=AK (fl:=[]) (by kernel_rfl)
theorem HW (l:List Eh) (a z s:Int) (o:Bool) (w:Int):Ec l++[.agg [.int .i64 a,.int .i64 z,.bool o,.int .i64 s,.list false [.int .i64 w]]]=Ec (l++[((a,z,o),s,[]++[w])]):=by simp[Ec,TR,BU]
theorem UF {c:GCode}{t:Eh}{w:Int}{Qp:List Eh}(h0:0<=w) (hw:w<c.W) (hs:c.stp t.1 w=none):c.bfsW t (c.W-w.toNat) w Qp=.bad t.2.1 (t.2.2++[w]):=by
 rw[show c.W-w.toNat=(c.W-w.toNat-1)+1 by omega,GCode.bfsW,hs]
theorem UE {c:GCode}{t:Eh}{w:Int}{Qp:List Eh}{r:Cf}(h0:0<=w) (hw:w<c.W) (hs:c.stp t.1 w=some r):c.bfsW t (c.W-w.toNat) w Qp=c.bfsW t (c.W-(w+1).toNat) (w+1) (Qp++[(r,t.2.1,t.2.2++[w])]):=by
 rw[show c.W-w.toNat=(c.W-(w+1).toNat)+1 by omega,GCode.bfsW,hs]
theorem Lt (c:GCode):(2:Int)^c.bits.toNat=c.W:=by unfold GCode.W;simp
theorem Tu (a z:Int) (o:Bool) (v:Int) (m:Fq):CG (.agg [.int .i64 a,.int .i64 z,.bool o]) (Ek (HY (a,z,o) v m))=some (.int .i64 v):=by rw[NP,bX];rfl
attribute [local congr] Bm BC BD Ak Bn Aq Au Ar Aj Af AY AU Am AZ BR BS BP Ao An Ad Ap Ae BH BZ Ab BM BN BI BJ BL BK BF BG BB Bq BE Al Aa Ba Ag Av BQ
attribute [local irreducible] IntKind.wrap A0 Option.getD and or
theorem RF (xs:List Int) (hl:xs.length<=1000) (hne:0<xs.length):Ft E0 C6 [] [.d (.list false (BU xs))] [(7,1,.row 3 1 false (BU xs))] (.own 7 1):=by
 refine CT Da Ay (by simp) (by simp[Jv,Dt,C_]) (by simp[It]) fun hwf hwo=>?_
 rw[Cg];unfold Cv
 have hn:¬xs=[]:=by intro h;rw[h] at hne;simp at hne
 refine' K5 hn
 all_goals first|omega|rfl
theorem RG:Cc E0 C6 [.list true []] (.list true []):=by
 refine AN Da Ay (by simp) fun hwf=>?_
 rw[AP];unfold Cv
 refine' HO
 all_goals first|omega|rfl
theorem Kg (c:GCode):Cc E0 M8 [Fo c] c.holdsT:=by
 refine AN Qz Ay (by simp) fun hwf=>?_
 have c1:=HD c
 unfold GCode.holdsT
 rw[AP];unfold LI
 cases h:c.ok with
 |false =>
  rw[h] at c1
  (try (simp -implicitDefEqProofs only[go_sem,AR,AQ,Iu]));repeat' first|(with_reducible first|exact tI|refine aI ?_ ?_|intro _)|((first|with_reducible refine Gs ?_ ?_<;>intro _|(with_reducible refine isCall ?_);first|refine AG c1 ?_)<;>try (simp -implicitDefEqProofs only[go_sem,AR,AQ,Iu]))|simp (disch:=omega) only[IE]
  all_goals trace_state
 |true =>
  rw[h] at c1
  have hd:=GCode.ok_head h
  unfold GCode.holdsD
  have hR:=Zy h
  have hRR:c.bfsR=c.bfs 600 c.queue0 []:=rfl
  generalize c.bfsR=R at *
  simp only[if_true]
  (try (simp -implicitDefEqProofs only[go_sem,AR,AQ,Iu,Ax]));repeat' first|(with_reducible first|exact tI|refine aI ?_ ?_|intro _)|((first|with_reducible refine Gs ?_ ?_<;>intro _|(with_reducible refine isCall ?_);first|refine AG c1 ?_)<;>try (simp -implicitDefEqProofs only[go_sem,AR,AQ,Iu,Ax]))|simp (disch:=omega) only[IE]
  all_goals (try omega)
  refine B4 (α:=Int×(List Eh)×Bool) (l0:=?l1) (m0:=?m1) (fun x=>[(28,.d (.int .i64 x.1))]) (fun x=>[(38,.row 94 5 x.2.2 (Ec x.2.1))]) (fun x=>(0<=x.1/\x.1<=c.words.length)/\x.2.1=c.queue0.take x.1.toNat/\x.2.2=x.2.1.isEmpty) (fun x=>(c.words.length-x.1).toNat) (?a1_0,[],true) ?h01 ?he1 ?he21 ?hI1 ?step1
  case h01=>(simp -implicitDefEqProofs only[go_sem,Ax];rfl)
  case he1=>rfl
  case he21=>rfl
  case' step1=>(rintro⟨i,Q,b⟩ hI;try dsimp only at hI)
  case' hI1=>try dsimp only
  ·exact⟨⟨by omega,by omega⟩,rfl,rfl⟩
  ·obtain⟨⟨q1,q2⟩,q3,q4⟩:=hI
   by_cases hi:i<c.words.length
   ·have w1:IntKind.i64.wrap (i+1)=i+1:=Bd _ (by omega)
    have hnx:=WE c i q1 hi
    rw[←q3] at hnx
    have hql:Q.length<=4:=by rw[q3,List.length_take];omega
    refine' Zg @Ep @F2 @UT hi w1
    all_goals first|omega|exact hnx.symm|(simp;done)|trace_state
   ·have hQ:Q=c.queue0:=by
     rw[q3,List.take_of_length_le];unfold GCode.queue0 GCode.starts;simp;omega
    have hb:b=false:=by
     rw[q4,hQ];unfold GCode.queue0 GCode.starts
     cases hw:c.words.length with
     |zero=>omega
     |succ n=>simp[List.range_succ]
    subst hb
    refine' K5 hi
    all_goals (try omega)
    refine B4 (α:=Nat×(List Eh)×Fq) (l0:=?l2) (m0:=?m2) (fun x=>[]) (fun x=>[(38,.row 94 5 false (Ec x.2.1)),(23,.map lS (Ek x.2.2))]) (fun x=>IC c x.2.1 (x.2.2.map (·.1))/\x.1<=600/\(∀e,e∈x.2.2->1<=e.2/\e.2+x.1<=600)/\Ow x.2.1 (x.2.2.map (·.1))<x.1/\c.bfs x.1 x.2.1 (x.2.2.map (·.1))=R) (fun x=>x.1) (600,?a2_1,[]) ?h02 ?he2 ?he22 ?hI2 ?step2
    case h02=>(simp -implicitDefEqProofs only[go_sem,Ep];rfl)
    case he2=>rfl
    case he22=>rfl
    case' step2=>(rintro⟨k,Q,m⟩ hI2;try dsimp only at hI2)
    case' hI2=>try dsimp only
    ·refine⟨by rw[hQ];exact IC.start h,by omega,fun e he=>(by cases he),?_,by rw[hQ];exact hRR.symm⟩
     rw[hQ];unfold Ow GCode.queue0 GCode.starts;simp;omega
    ·obtain⟨j,q8,q5,q6,q7⟩:=hI2
     cases Q with
     |nil =>
      have hr:R=none:=by
       rw[←q7]
       cases k with
       |zero=>rfl
       |succ k=>rfl
      rw[hr]
      simp only
      refine' Pc @Ep @XZ
      all_goals first|omega|rfl|trace_state
     |cons t Q' =>
      obtain⟨⟨a,z,o⟩,s0,d⟩:=t
      obtain⟨k',rfl⟩:∃k',k=k'+1:=⟨k-1,by omega⟩
      have hQl:0<(((a,z,o),s0,d)::Q').length:=by simp
      have hQ0:(((a,z,o),s0,d)::Q')[0]?.getD default=((a,z,o),s0,d):=by simp
      have hQd:(((a,z,o),s0,d)::Q').drop 1=Q':=rfl
      have hbl:Q'.length<=600:=by unfold Ow at q6;simp only[List.length_cons] at q6;omega
      have hml:m.length<=104:=by have:=j.len h;simpa using this
      have hdl:d.length<=104:=by have:=j.f ((a,z,o),s0,d) (by simp);simp at this;omega
      have hrun:c.RunOk (a,z,o):=by
       obtain⟨a1,a2,a3⟩:=j.a ((a,z,o),s0,d) (by simp)
       exact path_ok h (start_ok h a1) a2 a3
      have hbfs:c.bfs (k'+1) (((a,z,o),s0,d)::Q') (m.map (·.1))=if (a,z,o)∈m.map (·.1) then c.bfs k' Q' (m.map (·.1)) else match c.bfsW ((a,z,o),s0,d) c.W 0 Q' with
       |.bad s d=>some (s,d)
       |.go Q2=>c.bfs k' Q2 (m.map (·.1)++[(a,z,o)]):=rfl
      have hold:=fun hin=>j.old (t:=((a,z,o),s0,d)) hin
      have hnew:=fun Q2 hin hq=>j.new (t:=((a,z,o),s0,d)) (Q':=Q2) h hin hq
      have hmq:Ow (((a,z,o),s0,d)::Q') (m.map (·.1))=Ow Q' (m.map (·.1))+1:=by unfold Ow;simp;omega
      obtain⟨QQ,hQQ⟩:∃QQ,((a,z,o),s0,d)::Q'=QQ:=⟨_,rfl⟩
      rw[hQQ] at hQl hQ0 hQd q6 q7 hbfs hmq ⊢
      have hQl':(0:Int)<QQ.length:=by omega
      refine' PB @Ep @F2 @Uy hQ0 hQl hQl' @eA (aI @Vg hQd)
      all_goals (try omega)
      by_cases hin:(a,z,o)∈m.map (·.1)
      ·rw[if_pos hin] at hbfs
       obtain⟨v,hv⟩:∃v,FY (a,z,o) m=some v:=by
        cases hl:FY (a,z,o) m with
        |none=>exact absurd hin (SA.1 hl)
        |some v=>exact⟨v,rfl⟩
       have hvb:=q5 _ (bZ hv)
       simp only at hvb
       refine g9 (by omega) (v:=v) (by omega) hv ?_
       have hlk:=Tu a z o (v+1) m
       have hgt:1<v+1:=by omega
       refine' Pc hlk hgt
       all_goals (try omega)
       have hkeys:(HY (a,z,o) (v+1) m).map (·.1)=m.map (·.1):=by rw[af,if_pos hin]
       refine⟨(k',Q',HY (a,z,o) (v+1) m),rfl,⟨?_,?_,?_,?_,?_⟩,Nat.lt_succ_self _⟩
       ·show IC c Q' ((HY (a,z,o) (v+1) m).map (·.1));rw[hkeys];exact hold hin
       ·show k'<=600;omega
       ·intro e he
        show 1<=e.2/\e.2+(k':Int)<=600
        rcases eW he with rfl|he'
        ·simp only;omega
        ·have:=q5 e he';omega
       ·show Ow Q' ((HY (a,z,o) (v+1) m).map (·.1))<k';rw[hkeys];omega
       ·show c.bfs k' Q' ((HY (a,z,o) (v+1) m).map (·.1))=R;rw[hkeys,←hbfs];exact q7
      ·rw[if_neg hin] at hbfs
       have hnone:=SA.2 hin
       refine g_ (by omega) hnone ?_
       have hlk:=Tu a z o 1 m
       rw[eV hnone 1] at hlk
       have cw:=EQ c (by omega)
       rw[AR,AQ,Lt] at cw
       have hW4:=qN h
       obtain⟨G,hG⟩:∃G,c.bfsW ((a,z,o),s0,d) c.W 0 Q'=G:=⟨_,rfl⟩
       refine' MR hlk @AR @AQ @Ax;repeat' first|(refine' CQ;(first|refine AG cw ?_)<;>refine' MR hlk @AR @AQ @Ax)|refine' CP|done
       all_goals (try omega)
       refine B4 (α:=Int×(List Eh)) (l0:=?l3) (m0:=?m3) (fun x=>[(62,.d (.int .i64 x.1))]) (fun x=>[(38,.row 94 5 false (Ec x.2))]) (fun x=>(0<=x.1/\x.1<=c.W)/\x.2.length<=600+x.1/\c.bfsW ((a,z,o),s0,d) (c.W-x.1.toNat) x.1 x.2=G) (fun x=>(c.W-x.1).toNat) (?a3_0,?a3_1) ?h03 ?he3 ?he23 ?hI3 ?step3
       case h03=>(simp -implicitDefEqProofs only[go_sem,Ep];rfl)
       case he3=>rfl
       case he23=>rfl
       case' step3=>(rintro⟨w,Qp⟩ hI3;try dsimp only at hI3)
       case' hI3=>try dsimp only
       ·exact⟨⟨by omega,by omega⟩,by omega,hG⟩
       ·obtain⟨⟨p1,p2⟩,p4,p3⟩:=hI3
        by_cases hw:w<c.W
        ·have w1:IntKind.i64.wrap (w+1)=w+1:=Bd _ (by omega)
         have hword:c.isWord w=true:=word_iff.1 ⟨p1,by omega⟩
         by_cases hde:d=[]
         ·have e:D.list d.isEmpty (BU d)=.list true []:=by rw[hde];rfl
          have cl:=RG
          have hsr:=c.stepR (a,z,o) w
          have cs:=HQ c h (a,z,o) hrun w hword
          rw[FC,FD] at cs
          cases hs:c.stp (a,z,o) w with
          |none =>
           obtain⟨⟨u1,u2,u3⟩,hu⟩:=Rh hs
           rw[hu,FC,FD] at cs
           have hb:=UF (t:=((a,z,o),s0,d)) (Qp:=Qp) p1 hw hs
           rw[p3] at hb
           rw[hb] at hG
           have hR2:R=some (s0,d++[w]):=by rw[←q7,hbfs,hG]
           rw[hde,List.nil_append] at hR2
           rw[hR2]
           simp only
           refine' UB @AR @AQ e @Lt hw w1;repeat' first|(refine' CQ;(first|refine AG cl ?_|refine AG cw ?_|refine AG cs ?_)<;>refine' UB @AR @AQ e @Lt hw w1)|refine' CP|done
           all_goals first|omega|rfl|trace_state
          |some r' =>
           obtain⟨u1,u2,u3⟩:=r'
           rw[Rg hs,FC,FD] at cs
           have hb:=UE (t:=((a,z,o),s0,d)) (Qp:=Qp) p1 hw hs
           rw[p3] at hb
           have hb2:c.bfsW ((a,z,o),s0,d) (c.W-(w+1).toNat) (w+1) (Qp++[((u1,u2,u3),s0,[w])])=G:=by
            have e9:d++[w]=[w]:=by rw[hde];rfl
            rw[←e9];exact hb.symm
           refine' Gr @AR @AQ e @Lt hw w1 @Ep (aI @F2 (aI @HX @HW));repeat' first|(refine' CQ;(first|refine AG cl ?_|refine AG cw ?_|refine AG cs ?_)<;>refine' Gr @AR @AQ e @Lt hw w1 @Ep (aI @F2 (aI @HX @HW)))|refine' CP|done
           all_goals first|omega|exact hb|exact hb2|(simp;omega)|trace_state
         ·have e:D.list d.isEmpty (BU d)=.list false (BU d):=by cases d with|nil=>exact absurd rfl hde|cons _ _=>rfl
          have hdp:0<d.length:=by cases d with|nil=>exact absurd rfl hde|cons _ _=>simp
          have cl:=RF d (by omega) hdp
          have hsr:=c.stepR (a,z,o) w
          have cs:=HQ c h (a,z,o) hrun w hword
          rw[FC,FD] at cs
          cases hs:c.stp (a,z,o) w with
          |none =>
           obtain⟨⟨u1,u2,u3⟩,hu⟩:=Rh hs
           rw[hu,FC,FD] at cs
           have hb:=UF (t:=((a,z,o),s0,d)) (Qp:=Qp) p1 hw hs
           rw[p3] at hb
           rw[hb] at hG
           have hR2:R=some (s0,d++[w]):=by rw[←q7,hbfs,hG]
           skip
           rw[hR2]
           simp only
           refine' UB @AR @AQ e @Lt hw w1;repeat' first|(refine' CQ;(first|refine Cz ([]) ([((7,1),(68,1))]) (cl) ?_|refine AG cw ?_|refine AG cs ?_)<;>refine' UB @AR @AQ e @Lt hw w1)|refine' CP|done
           all_goals first|omega|rfl|trace_state
          |some r' =>
           obtain⟨u1,u2,u3⟩:=r'
           rw[Rg hs,FC,FD] at cs
           have hb:=UE (t:=((a,z,o),s0,d)) (Qp:=Qp) p1 hw hs
           rw[p3] at hb
           have hb2:=hb.symm
           refine' Gr @AR @AQ e @Lt hw w1 @Ep (aI @F2 (aI @HX @HW));repeat' first|(refine' CQ;(first|refine Cz ([]) ([((7,1),(68,1))]) (cl) ?_|refine AG cw ?_|refine AG cs ?_)<;>refine' Gr @AR @AQ e @Lt hw w1 @Ep (aI @F2 (aI @HX @HW)))|refine' CP|done
           all_goals first|omega|exact hb|exact hb2|(simp;omega)|trace_state
        ·have hwe:c.W-w.toNat=0:=by omega
         rw[hwe,GCode.bfsW] at p3
         rw[←p3] at hG
         rw[hG] at hbfs
         have j':=hnew Qp hin hG
         have hjl:=j'.len h
         obtain⟨N,hN1,hN2,_⟩:=RP hG
         have hNl:Qp.length=Q'.length+c.W:=by rw[hN1];simp[hN2]
         have hkeys:(m++[((a,z,o),(1:Int))]).map (·.1)=m.map (·.1)++[(a,z,o)]:=by simp
         have hkl:(m.map (·.1)).length=m.length:=by simp
         refine' HR @Lt hw;repeat' first|(refine' CQ;(first|refine AG cw ?_)<;>refine' HR @Lt hw)|refine' CP|done
         all_goals (try omega)
         refine⟨(k',Qp,m++[((a,z,o),1)]),rfl,⟨?_,?_,?_,?_,?_⟩,Nat.lt_succ_self _⟩
         ·show IC c Qp ((m++[((a,z,o),(1:Int))]).map (·.1));rw[hkeys];exact j'
         ·show k'<=600;omega
         ·intro e he
          show 1<=e.2/\e.2+(k':Int)<=600
          rcases List.mem_append.1 he with he'|he'
          ·have:=q5 e he';omega
          ·rw[List.mem_singleton.1 he'];simp only;omega
         ·show Ow Qp ((m++[((a,z,o),(1:Int))]).map (·.1))<k'
          rw[hkeys]
          unfold Ow at q6 hmq ⊢
          rw[List.length_append,List.length_singleton] at hjl ⊢
          omega
         ·show c.bfs k' Qp ((m++[((a,z,o),(1:Int))]).map (·.1))=R;rw[hkeys,←q7,hbfs]
end
end Go.Pw

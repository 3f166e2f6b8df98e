/- A part of the proof. -/
import Derived.Test.YtmdklgapccickaaGreatDoorPgMvG
import Derived.Test.YtmdklgapccickaaGreatDoorPgMvChJ
import Derived.Test.YtmdklgapccickaaGreatDoorPgMvcHw
import Derived.Test.YtmdklgapccickaaGreatDoorPgMvChcS
set_option linter.all false
open Go Go.Pw Go.Proofs
namespace Go.Pw
set_option maxRecDepth 100000
set_option maxHeartbeats 12800000
section
attribute [local congr] Bm BC BD Ak Bn Aq Au Ar Aj Af AY AU Am AZ BR BS BP Ao An Ad Ap Ae BH BZ Ab BM BN BI BJ BL BK BF BG BB Bq BE Al Aa Ba Ag Av BQ
attribute [local irreducible] IntKind.wrap A0 Option.getD and or
theorem dW (f:F1) (h:f.Base) (hm:f.gr.any (fun x=>!Mt f x)=false) (h0:0<f.gr.length) (h12:f.gr.length<=12) (hd:f.gr.Pairwise fun a b=>a.id≠b.id)
  (s1 s2:List Bu) (hp1:s1.Perm f.gr) (hs1:s1.Pairwise fun a b=>a.id<b.id) (hp2:s2.Perm s1) (hs2:s2.Pairwise fun a b=>a.st<b.st) (hpo:∀n,n<=s2.length->qc f (LX f s2 n)) (b:Int) :
  Cc E0 H6 [Yi f,.int .i64 b] (.tup [.int .i64 (RX (LX f s2 s2.length) b).1,.int .i64 (RX (LX f s2 s2.length) b).2]):=by
 have cL:=pi f h hm h0 h12 hd s1 s2 hp1 hs1 hp2 hs2 hpo
 obtain⟨p,hp⟩:∃p,LX f s2 s2.length=p:=⟨_,rfl⟩
 rw[hp] at cL ⊢
 rw[DG,DH] at cL
 simp only[qY] at cL
 have hwv:RX p b=if b<0\/(p.bl.length:Int)<=b then (0,1) else if p.bl[b.toNat]?.getD 0=-1 then (0,3) else (p.bl[b.toNat]?.getD 0,0):=rfl
 refine AN Py Ay (by simp) fun hwf=>?_
 rw[AP];unfold KV
 by_cases h1:b<0
 ·rw[hwv,if_pos (.inl h1)]
  refine' Gb @DG @DH h1;repeat' first|(refine' CQ;(first|refine Cz ([]) ([((24,0),(10,0)),((80,0),(10010,0)),((92,0),(20010,0)),((22,0),(30010,0))]) (cL) ?_)<;>refine' Gb @DG @DH h1)|refine' CP|done
  all_goals first|omega|rfl|exact .inl True.intro|trace_state
 ·by_cases h2:(p.bl.length:Int)<=b
  ·rw[hwv,if_pos (.inr h2)]
   refine' MR @DG @DH h1 h2;repeat' first|(refine' CQ;(first|refine Cz ([]) ([((24,0),(10,0)),((80,0),(10010,0)),((92,0),(20010,0)),((22,0),(30010,0))]) (cL) ?_)<;>refine' MR @DG @DH h1 h2)|refine' CP|done
   all_goals first|omega|rfl|exact .inl True.intro|trace_state
  ·rw[hwv,if_neg (by omega)]
   obtain⟨n,hn⟩:∃n:Nat,b=(n:Int):=⟨b.toNat,by omega⟩
   subst hn
   rw[Int.toNat_natCast]
   have hnl:n<p.bl.length:=by omega
   obtain⟨v,hv⟩:∃v,p.bl[n]?.getD 0=v:=⟨_,rfl⟩
   rw[hv]
   have hnl':(n:Int)<(p.bl.length:Int):=by omega
   by_cases h3:v=-1
   ·rw[if_pos h3]
    refine' Gr @DG @DH h1 h2 hnl hnl' hv h3;repeat' first|(refine' CQ;(first|refine Cz ([]) ([((24,0),(10,0)),((80,0),(10010,0)),((92,0),(20010,0)),((22,0),(30010,0))]) (cL) ?_)<;>refine' Gr @DG @DH h1 h2 hnl hnl' hv h3)|refine' CP|done
    all_goals first|omega|rfl|exact .inl True.intro|trace_state
   ·rw[if_neg h3]
    refine' Gr @DG @DH h1 h2 hnl hnl' hv h3;repeat' first|(refine' CQ;(first|refine Cz ([]) ([((24,0),(10,0)),((80,0),(10010,0)),((92,0),(20010,0)),((22,0),(30010,0))]) (cL) ?_)<;>refine' Gr @DG @DH h1 h2 hnl hnl' hv h3)|refine' CP|done
    all_goals first|omega|rfl|exact .inl True.intro|trace_state
end
section
def nF (f:F1) (p:dg):Bool:=decide (p.fr.length=f.d.zones.length) && (decide (p.bl.length<=5200) && (p.gv.all (fun q=>decide (1<=q.2/\q.2<=1000)) && p.fr.all (fun r=>decide (r.2.Pairwise fun a b:Int=>a<b) && (decide (r.2.length<=5200) && (!r.1 || r.2.isEmpty)))))
theorem oQ {gv:List (Int×Int)}(h:∀q∈gv,1<=q.2/\q.2<=1000) (t:Int):0<=GE gv t/\GE gv t<=1000:=by
 induction gv with
 |nil=>simp[GE]
 |cons q l ih =>
  have hq:=h q (List.mem_cons_self ..)
  rw[GE];split
  ·omega
  ·exact ih fun q hq=>h q (List.mem_cons_of_mem _ hq)
theorem nE {f:F1}{p:dg}(h:nF f p=true):qc f p:=by
 simp only[nF,Bool.and_eq_true,decide_eq_true_eq,List.all_eq_true,Bool.or_eq_true,Bool.not_eq_true',List.isEmpty_iff] at h
 obtain⟨h1,h2,h3,h4⟩:=h
 have hk:∀k:Nat,(p.fr[k]?.getD ((true,[]):Fr))=(true,[])\/(p.fr[k]?.getD ((true,[]):Fr))∈p.fr:=fun k=>by
  cases e:p.fr[k]? with
  |none=>exact .inl rfl
  |some x=>exact .inr (List.mem_of_getElem? e)
 refine⟨h1,h2,fun q hq=>(h3 q hq).1,oQ h3,fun k=>?_,fun k=>?_,fun k=>?_⟩
 ·rcases hk k with e|e
  ·rw[e];exact List.Pairwise.nil
  ·exact(h4 _ e).1
 ·rcases hk k with e|e
  ·rw[e];exact Nat.zero_le _
  ·exact(h4 _ e).2.1
 ·rcases hk k with e|e
  ·rw[e];exact fun _=>rfl
  ·intro ht
   rcases (h4 _ e).2.2 with h|h
   ·rw[ht] at h;cases h
   ·exact h
def rO:List Bu:=[⟨1,5,4⟩,⟨2,9,22⟩,⟨3,7,33⟩,⟨4,8,23⟩,⟨5,6,30⟩]
def kX:List Bu:=[⟨1,5,4⟩,⟨5,6,30⟩,⟨3,7,33⟩,⟨4,8,23⟩,⟨2,9,22⟩]
theorem n_:(List.range 6).all (fun n=>nF Lg (LX Lg kX n))=true:=by decide +kernel
theorem kW:Lg.Base:=⟨by decide +kernel,by decide,by decide,by decide +kernel,by decide⟩
theorem oA:Lg.gr.any (fun x=>!Mt Lg x)=false:=by decide +kernel
attribute [local congr] Bm BC BD Ak Bn Aq Au Ar Aj Af AY AU Am AZ BR BS BP Ao An Ad Ap Ae BH BZ Ab BM BN BI BJ BL BK BF BG BB Bq BE Al Aa Ba Ag Av BQ
attribute [local irreducible] IntKind.wrap A0 Option.getD and or
theorem Wi:Cc E0 H6 [Yi Lg,.int .i64 26] (.tup [.int .i64 32,.int .i64 0]):=by
 have h:=dW Lg kW oA (by decide) (by decide) (by decide) rO kX (.refl _) (by decide) (by decide +kernel) (by decide) (fun n hn=>nE (List.all_eq_true.1 n_ n (List.mem_range.2 (by change n<=5 at hn;omega)))) 26
 have e:RX (LX Lg kX kX.length) 26=(32,0):=Wj
 rw[e] at h;exact h
theorem SB (l h:Int):Cc E0 O_ [.int .i64 l,.int .i64 h] (.agg [.int .i64 l,.int .i64 h]):=by
 refine AN SM Ay (by simp) fun hwf=>?_
 rw[AP];unfold Mp
 refine' HO
 all_goals first|rfl|trace_state
theorem N_:Cc E0 Kq [] (OJ Lg.d):=by
 refine AN OV Ay (by simp) fun hwf=>?_
 have c1:=SB
 rw[AP];unfold JI
 refine' H9;repeat' first|(refine' CQ;(first|refine AG (c1 _ _) ?_)<;>refine' H9)|refine' CP|done
 all_goals first|rfl|trace_state
theorem N9:Cc E0 Kp [] (Yi Lg):=by
 refine AN OU Ay (by simp) fun hwf=>?_
 have c1:=N_
 rw[CB,Be] at c1
 rw[AP];unfold JH
 refine' H9;repeat' first|(refine' CQ;(first|refine AG c1 ?_)<;>refine' H9)|refine' CP|done
 all_goals first|rfl|trace_state
end
section
theorem kV:bv.code.bfsR=none:=by decide +kernel
theorem Wb {c:GCode}(h:c.ok=true) (hb:c.bfsR=none) (s:Nat):c.keeps (c.stm s)=true:=by
 have hR:=Zy h
 rw[hb] at hR
 unfold GCode.stm
 have hk:=keeps_stream c 0 (Jj c.bits.toNat s)
 rw[hk]
 cases hq:c.path (0,0,false) (Jj c.bits.toNat s) with
 |none=>exact absurd ⟨0,Jj c.bits.toNat s,Jk h,rfl,Jm h s,hq⟩ (hR (Jj c.bits.toNat s).length)
 |some q=>rfl
theorem mQ (c:GCode) (s:Nat):∀b,b∈c.stm s->b=0\/b=1:=fun b hb=>by
 have:=Vj c s
 simp only[Bf,List.all_eq_true] at this
 have:=this b hb
 simp only[DE,decide_eq_true_eq] at this;omega
theorem kj {c:GCode}(hc:c.ok=true) (s:Nat):∃l,c.decR 0 (c.stm s)=(some l,0)/\l.length=4/c.bits.toNat/\∀w,w∈l->c.isWord w=true:=by
 have hd:=GCode.ok_head hc
 obtain⟨l,h1,h2,h3,h4⟩:=W3 c hc (s:=0) (data:=Jj c.bits.toNat (s:Int)) (Jm hc s)
 have h5:=(RK c (c.stm s) (Jj c.bits.toNat (s:Int)).length (Jj c.bits.toNat (s:Int)).length 0 0 [] (by omega) fun e he=>by cases he).1
 rw[HV] at h2 h5
 rw[HV] at h1
 have h6:c.decP (c.stm s) (4/c.bits.toNat) 0 0=some l:=by rw[←h5];exact h1
 refine⟨l,?_,h2,h3⟩
 have hs:c.sz=4/c.bits.toNat * c.out.toNat:=rfl
 have hl:=No c s
 have ho:1<=c.out.toNat/\c.out.toNat<=5:=by omega
 have hK:(c.stm s).length/c.out.toNat=4/c.bits.toNat:=by rw[hl,hs];exact Nat.mul_div_cancel _ (by omega)
 have hi:((c.stm s).length:Int)=c.out*((4/c.bits.toNat:Nat):Int):=by
  rw[hl,hs,Nat.mul_comm];push_cast;rw[Int.toNat_of_nonneg (by omega)]
 have h4:4/c.bits.toNat<=4:=Nat.div_le_self _ _
 have hg:(Bf (c.stm s) && decide (((c.stm s).length:Int).tmod c.out=0) && decide (((c.stm s).length:Int)<=c.out*24))=true:=by
  rw[Vj,hi]
  have e1:0<=c.out*((4/c.bits.toNat:Nat):Int):=Int.mul_nonneg (by omega) (Int.natCast_nonneg _)
  rw[Int.tmod_eq_emod_of_nonneg e1,Int.mul_emod_right,decide_eq_true (rfl:(0:Int)=0),decide_eq_true (Int.mul_le_mul_of_nonneg_left (by omega) (by omega))];rfl
 rw[kl c 0 _ hc (Jk hc) _ hK hg,h6]
theorem ow {c:Bb}(h:c.ok=true) {d:List Int}(he:dl c d=0):(iQ c d).length=c.tot/\∀i,i<c.syms->∃s:Nat,((iQ c d).drop (c.mark.length+i*c.code.sz)).take c.code.sz=c.code.stm s:=by
 have hk:=RM h
 have hs:iM c.L c.P c.Q d=0:=by
  unfold dl at he;rw[if_pos h] at he
  by_cases e:iM c.L c.P c.Q d=0
  ·exact e
  ·rw[if_neg e] at he;omega
 have hw:iQ c d=ed c (iL c.L c.P c.Q d):=by unfold iQ;rw[if_pos h,if_pos hs]
 have hl:=ZU hk.wev hs
 refine⟨by rw[hw,jI,hl];rfl,fun i hi=>?_⟩
 have hp:=ec c (Jp c.seed (iL c.L c.P c.Q d)) [] i (by rw[I5,hl];exact hi)
 rw[List.append_nil] at hp
 unfold Bb.part at hp
 rw[Nat.zero_add] at hp
 exact⟨_,by rw[hw];exact hp⟩
attribute [local congr] Bm BC BD Ak Bn Aq Au Ar Aj Af AY AU Am AZ BR BS BP Ao An Ad Ap Ae BH BZ Ab BM BN BI BJ BL BK BF BG BB Bq BE Al Aa Ba Ag Av BQ
attribute [local irreducible] IntKind.wrap A0 Option.getD and or
theorem Xh:Cc E0 O6 [] (.bool true):=by
 have c1:=N7
 have c2:=Ia bv false [1]
 have e1:dl bv [1]=0:=by unfold dl;rw[if_pos oB,if_pos p8]
 rw[p7,e1] at c2
 have c3:=N9
 have c4:=Wi
 rw[DG,DH] at c3 c4
 have c5:=Kg bv.code
 have e5:bv.code.holdsT=.tup [.bool true,.agg [.int .i64 0,.list true []],.int .i64 0]:=by
  unfold GCode.holdsT GCode.holdsD
  rw[if_pos (by decide +kernel),kV]
 rw[e5] at c5
 have c6:=LE false false oh oh
 rw[decide_eq_true rfl] at c6
 obtain⟨W,hW⟩:∃W,oh=W:=⟨_,rfl⟩
 have hWe:oh.isEmpty=false:=rfl
 rw[hWe] at c2
 rw[hW] at c1 c2 c6
 refine AN SI Ay (by simp) fun hwf=>?_
 rw[AP];unfold Ml
 have hc:Ib bv=.agg (W8 bv):=rfl
 refine' MR @A_ @A9 @AR @AQ;repeat' first|(refine' CQ;(first|refine AG c1 ?_|refine AG c2 ?_|refine AG c3 ?_|refine AG c4 ?_|refine AG c5 ?_|refine AG c6 ?_)<;>refine' MR @A_ @A9 @AR @AQ)|refine' CP|done
 all_goals first|rfl|omega|trace_state
end
section
attribute [local congr] Bm BC BD Ak Bn Aq Au Ar Aj Af AY AU Am AZ BR BS BP Ao An Ad Ap Ae BH BZ Ab BM BN BI BJ BL BK BF BG BB Bq BE Al Aa Ba Ag Av BQ
attribute [local irreducible] IntKind.wrap A0 Option.getD and or
theorem VR (c:Bb) (nl:Bool) (d:List Int):Cc E0 Lu [Ib c,.list nl (BU d)] (.bool true):=by
 have cF:=S3 c
 have cC:=KH c
 have cS:=Xh
 have cW:=Ia c nl d
 have hE:Pj c=0->c.ok=true:=fun h=>by
  unfold Pj at h;by_cases e:c.ok=true
  ·exact e
  ·rw[if_neg e] at h;omega
 have hW:c.ok=true->dl c d=0\/dl c d=51:=fun h=>by
  unfold dl;rw[if_pos h];split
  ·exact .inl rfl
  ·exact .inr rfl
 have hL:c.ok=true->dl c d=0->_:=fun h he=>ow h he
 have cH:=Kg c.code
 obtain⟨fa,hfa⟩:∃fa,gN c=fa:=⟨_,rfl⟩
 obtain⟨e,he⟩:∃e,Pj c=e:=⟨_,rfl⟩
 obtain⟨we,hwe⟩:∃we,dl c d=we:=⟨_,rfl⟩
 obtain⟨W,hWd⟩:∃W,iQ c d=W:=⟨_,rfl⟩
 rw[he] at cC hE
 rw[hwe,hWd] at cW hL
 rw[hwe] at hW
 rw[hfa] at cF
 refine AN Pm Ay (by simp) fun hwf=>?_
 rw[AP];unfold KJ
 refine' HR @A_ @A9;repeat' first|(refine' CQ;(first|refine AG cF ?_|refine AG cC ?_|refine AG cS ?_|refine AG cW ?_)<;>refine' HR @A_ @A9)|refine' CP|done
 ·have hok:=hE ‹e=0›
  have hk:=RM hok
  obtain⟨hlen,hpart⟩:=hL hok ‹we=0›
  have hm:=hk.markl
  have hh:=GCode.ok_head hk.code
  have hsz:=Re hk.code
  have hql:=hk.ql
  have cZ:=LD c hk.code
  have cT:=Qs c hk.wev hk.code (by omega)
  have cY:=FE c hk.wev
  have hsy:c.syms=(c.Q*c.L).toNat:=rfl
  have hq0:0<=c.Q*c.L:=by
   have:=dr hk.wev
   exact Int.mul_nonneg (by omega) (by omega)
  have hQL:c.Q*c.L=(c.syms:Int):=by omega
  rw[hQL] at cY
  have hsy32:c.syms<=32:=by omega
  have htot:c.tot=c.mark.length+c.syms*c.code.sz:=rfl
  obtain⟨hb,hs,hnl,hd,hH,hHk⟩:∃(hb:Bool) (hs:Int) (hnl:Bool) (hd:List Int),c.code.holdsT=.tup [.bool hb,.agg [.int .i64 hs,.list hnl (BU hd)],.int .i64 0]/\(hb=true->c.code.bfsR=none):=by
   unfold GCode.holdsT GCode.holdsD
   rw[if_pos hk.code]
   cases c.code.bfsR with
   |none=>exact⟨true,0,true,[],rfl,fun _=>rfl⟩
   |some p=>exact⟨false,p.1,false,p.2,rfl,fun h=>by cases h⟩
  rw[hH] at cH
  obtain⟨sz,hze⟩:∃sz,c.code.sz=sz:=⟨_,rfl⟩
  obtain⟨m,hme⟩:∃m,c.mark.length=m:=⟨_,rfl⟩
  obtain⟨N,hN⟩:∃N,c.syms=N:=⟨_,rfl⟩
  obtain⟨t,hte⟩:∃t,c.tot=t:=⟨_,rfl⟩
  rw[hze] at cZ hsz htot hpart
  rw[hte] at cT hlen htot
  rw[hme] at hm htot hpart
  rw[hN] at cY hsy32 htot hpart
  have hNs:N*sz<=32*20:=Nat.mul_le_mul hsy32 hsz.2
  refine' Gb @AR @AQ hlen;repeat' first|(refine' CQ;(first|refine AG cH ?_|refine AG cZ ?_|refine AG cT ?_)<;>refine' Gb @AR @AQ hlen)|refine' CP|done
  all_goals try exact Ca
  refine Bh (α:=Nat) (fun x=>[(11,.d (.int .i64 (x:Int)))]) (fun x=>[]) (fun x=>x<=N) (fun x=>N-x) 0 ?hI1 ?step1
  case' step1=>(rintro i hI;try dsimp only at hI)
  case' hI1=>try dsimp only
  ·omega
  ·by_cases hi:i<N
   ·have hi':(i:Int)<(N:Int):=by omega
    have wi:=Mi (i:=i) (by omega)
    have hip:i*sz<=32*20:=Nat.mul_le_mul (by omega) hsz.2
    have hip2:(i+1)*sz<=N*sz:=Nat.mul_le_mul_right _ hi
    have hss:(i+1)*sz=i*sz+sz:=Nat.succ_mul ..
    have wm1:IntKind.i64.wrap ((i:Int)*(sz:Int))=((i*sz:Nat):Int):=by rw[←Int.natCast_mul,Bd _ (by omega)]
    have wm2:IntKind.i64.wrap (((i+1:Nat):Int)*(sz:Int))=(((i+1)*sz:Nat):Int):=by rw[←Int.natCast_mul,Bd _ (by omega)]
    have wa1:IntKind.i64.wrap ((c.mark.length:Int)+((i*sz:Nat):Int))=((m+i*sz:Nat):Int):=by rw[hme,Bd _ (by omega)];omega
    have wa2:IntKind.i64.wrap ((c.mark.length:Int)+(((i+1)*sz:Nat):Int))=((m+(i+1)*sz:Nat):Int):=by rw[hme,Bd _ (by omega)];omega
    obtain⟨s,hs⟩:=hpart i hi
    have cK:=fun n=>Qu c.code (by omega) n (c.code.stm s) (mQ c.code s)
    obtain⟨l,hl1,hl2,hl3⟩:=kj hk.code s
    have cD:=fun n=>QB c.code 0 n (c.code.stm s)
    rw[hl1] at cD
    have cI:=PU c.code false l (by omega)
    have hID:c.code.isData l=true:=by
     unfold GCode.isData
     rw[Bool.and_eq_true,decide_eq_true_eq,List.all_eq_true]
     exact⟨by rw[hl2];exact Nat.le_trans (Nat.div_le_self ..) (by omega),hl3⟩
    rw[hID] at cI
    simp only[Gf] at cD
    have hq:(4:Int).tdiv c.code.bits=(l.length:Int):=by
     rw[hl2,Int.tdiv_eq_ediv_of_nonneg (by omega),Int.natCast_ediv,Int.toNat_of_nonneg (by omega)];rfl
    have hb0:¬c.code.bits=0:=by omega
    have hl4:l.length<=4:=by rw[hl2];exact Nat.div_le_self ..
    have wq:IntKind.i64.wrap (l.length:Int)=(l.length:Int):=Bd _ (by omega)
    obtain⟨kp,hkp⟩:∃kp,c.code.keeps (c.code.stm s)=kp:=⟨_,rfl⟩
    have hkk:hb=true->kp=true:=fun h=>by rw[←hkp];exact Wb hk.code (hHk h) s
    rw[hkp] at cK
    generalize c.code.stm s=S at *
    have hsd:m+(i+1)*sz-(m+i*sz)=sz:=by omega
    cases hb with
    |true =>
     rw[hkk rfl] at cK
     refine' Gr @A_ @A9 @AR @AQ hi' hi wi (aI wm1 (aI wm2 (aI wa1 (aI wa2 (aI hlen (aI hq (aI hb0 (aI @Gh (aI @He (aI hsd (aI hs wq)))))))))));repeat' first|(refine' CQ;(first|refine AG cY ?_|refine AG (cK _) ?_|refine AG (cD _) ?_|refine AG cI ?_)<;>refine' Gr @A_ @A9 @AR @AQ hi' hi wi (aI wm1 (aI wm2 (aI wa1 (aI wa2 (aI hlen (aI hq (aI hb0 (aI @Gh (aI @He (aI hsd (aI hs wq))))))))))))|refine' CP|done
     all_goals first|omega|rfl|exact .inl True.intro|trace_state
    |false =>
     refine' Gr @A_ @A9 @AR @AQ hi' hi wi (aI wm1 (aI wm2 (aI wa1 (aI wa2 (aI hlen (aI hq (aI hb0 (aI @Gh (aI @He (aI hsd (aI hs wq)))))))))));repeat' first|(refine' CQ;(first|refine AG cY ?_|refine AG (cD _) ?_|refine AG cI ?_)<;>refine' Gr @A_ @A9 @AR @AQ hi' hi wi (aI wm1 (aI wm2 (aI wa1 (aI wa2 (aI hlen (aI hq (aI hb0 (aI @Gh (aI @He (aI hsd (aI hs wq))))))))))))|refine' CP|done
     all_goals first|omega|rfl|exact .inl True.intro|trace_state
   ·have hi':¬(i:Int)<(N:Int):=by omega
    refine' Gb @A_ @A9 hi';repeat' first|(refine' CQ;(first|refine AG cY ?_|refine AG cS ?_)<;>refine' Gb @A_ @A9 hi')|refine' CP|done
    all_goals first|omega|rfl|exact .inl True.intro|trace_state
 ·exfalso
  rcases hW (hE ‹e=0›) with h|h
  ·exact ‹¬we=0› h
  ·exact ‹¬we=51› h
end
end Go.Pw

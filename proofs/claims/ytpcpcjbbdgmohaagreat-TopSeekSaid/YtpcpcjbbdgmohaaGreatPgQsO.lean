/- A part of the proof. -/
import Derived.Test.YtpcpcjbbdgmohaaGreatQsL
import Derived.Test.YtpcpcjbbdgmohaaGreatPgQsD
set_option linter.all false
section
open Go Go.Pw Go.Proofs
namespace Go.Pw
set_option maxRecDepth 100000
set_option maxHeartbeats 3200000
theorem TX:fw jB 3 ⟨0,0⟩=0/\Cv (Ew jB 3) ⟨0,0⟩=some 3:=by decide +kernel
attribute [local congr] DX B3 B4 Bc DZ Bj Bl Bk Bb BN BF A6 Be BG Bg CD CE CF Cd Ce B9 Bf BL Bi BM B8 Cf BK CB CC B_ B6 B7 B2 DY B5 Bd BI BH BJ Bh CA
attribute [local irreducible] IntKind.wrap CK Option.getD and or
theorem RF (l h:Int):Ca E0 OD [.int .i64 l,.int .i64 h] (.agg [.int .i64 l,.int .i64 h]):=by
 refine AW Rb Aq (by simp) fun hwf=>?_
 rw[AZ];unfold Lx
 (try (simp -implicitDefEqProofs only[go_sem]));repeat' first|(with_reducible first|exact tI|refine aI ?_ ?_|intro _)|((first|with_reducible refine AU ?_ ?_<;>intro _)<;>try (simp -implicitDefEqProofs only[go_sem]))|simp (disch:=omega) only[Al]
 all_goals first|rfl|trace_state
theorem RE (l h:Int):Ca E0 OC [.int .i64 l,.int .i64 h] (.agg [.int .i64 l,.int .i64 h]):=by
 refine AW Ra Aq (by simp) fun hwf=>?_
 rw[AZ];unfold Lw
 (try (simp -implicitDefEqProofs only[go_sem]));repeat' first|(with_reducible first|exact tI|refine aI ?_ ?_|intro _)|((first|with_reducible refine AU ?_ ?_<;>intro _)<;>try (simp -implicitDefEqProofs only[go_sem]))|simp (disch:=omega) only[Al]
 all_goals first|rfl|trace_state
theorem NY:Ca E0 Jx [] (Cr ei):=by
 refine AW Nr Aq (by simp) fun hwf=>?_
 have c1:=RF
 rw[AZ];unfold IL
 (try (simp -implicitDefEqProofs only[go_sem]));repeat' first|(with_reducible first|exact tI|refine aI ?_ ?_|intro _)|((first|with_reducible refine AU ?_ ?_<;>intro _|(with_reducible refine isCall ?_);first|refine AF (c1 _ _) ?_)<;>try (simp -implicitDefEqProofs only[go_sem]))|simp (disch:=omega) only[Al]
 all_goals first|rfl|trace_state
theorem NW:Ca E0 Jv [] (Hy ke):=by
 refine AW Np Aq (by simp) fun hwf=>?_
 have c1:=RE
 have c2:=NY
 rw[AI,AD] at c2
 rw[AZ];unfold IJ
 (try (simp -implicitDefEqProofs only[go_sem]));repeat' first|(with_reducible first|exact tI|refine aI ?_ ?_|intro _)|((first|with_reducible refine AU ?_ ?_<;>intro _|(with_reducible refine isCall ?_);first|refine AF c2 ?_|refine AF (c1 _ _) ?_)<;>try (simp -implicitDefEqProofs only[go_sem]))|simp (disch:=omega) only[Al]
 all_goals first|rfl|trace_state
theorem Qc:Ca E0 N_ [] (.bool true):=by
 refine AW RU Aq (by simp) fun hwf=>?_
 have c1:=NX
 have c2:=Sc jB 3 ⟨0,0⟩ TX.1
 rw[TX.2] at c2
 have c3:=NW
 have c4:=P3 ke (dA TW.1) (by decide) (by rw[TW.2];decide) eh
 obtain⟨C,hC⟩:∃C,HD jB (Ew jB 3) ⟨0,0⟩=C:=⟨_,rfl⟩
 dsimp only at c2
 rw[hC] at c2
 rw[show FW mu=.agg [.int .i64 6,.int .i64 2,.int .i64 3,.int .i64 1,.int .i64 1,.int .i64 2] from rfl,show FW jB=.agg [.int .i64 6,.int .i64 2,.int .i64 3,.int .i64 0,.int .i64 0,.int .i64 0] from rfl] at c1
 rw[show FW jB=.agg [.int .i64 6,.int .i64 2,.int .i64 3,.int .i64 0,.int .i64 0,.int .i64 0] from rfl,show F7 ⟨0,0⟩=.agg [.int .i64 0,.int .i64 0] from rfl] at c2
 rw[Ai,AN] at c3 c4
 rw[show Bs [1,2,0,3]=[.int .i64 1,.int .i64 2,.int .i64 0,.int .i64 3] from rfl] at c4
 rw[AZ];unfold Ls
 (try (simp -implicitDefEqProofs only[go_sem]));repeat' first|(with_reducible first|exact tI|refine aI ?_ ?_|intro _)|((first|with_reducible refine AU ?_ ?_<;>intro _|(with_reducible refine isCall ?_);first|refine AF c1 ?_|refine AF c2 ?_|refine AF c3 ?_|refine AF c4 ?_)<;>try (simp -implicitDefEqProofs only[go_sem]))|simp (disch:=omega) only[Al]
 all_goals first|omega|rfl|exact .inl True.intro|trace_state
end Go.Pw
end
section
open Go Go.Pw Go.Proofs
namespace Go.Pw
set_option maxRecDepth 100000
set_option maxHeartbeats 6400000
def GQ.ws (q:GQ) (s:List Zp):GQ:=⟨q.d,q.cyl,q.pas,false,s,q.nlr,q.rq⟩
theorem am {q:GQ}(h:V9 q=false):(q.d.ok=true->q.d.size<=200)/\q.rq.length<=20:=by
 unfold V9 V_ at h
 simp only[Bool.or_eq_false_iff,Bool.and_eq_false_iff,decide_eq_false_iff_not] at h
 obtain⟨⟨_,h2⟩,_,h4,_⟩:=h
 refine⟨fun ho=>?_,by omega⟩
 rcases h2 with h2|h2
 ·rw[ho] at h2;cases h2
 ·omega
theorem cQ {a:A1}(hok:a.ok=true) {v t:Nat}(hv:(v:Int)<=a.last) (ht:(t:Int)<=a.last):fw a t ⟨(v:Int),0⟩=0:=by
 have g:=Kv hok
 have gs:=g.s
 have h2:Gn t 0 a.last=true:=Nb.2 ⟨by omega,ht⟩
 have h3:a.has ⟨(v:Int),0⟩=true:=UX.2 ⟨⟨by show (0:Int)<=(v:Int);omega,hv⟩,by show -a.speed<=(0:Int);omega,by show (0:Int)<=a.speed;omega⟩
 unfold fw
 rw[hok,h2,h3];rfl
def ji (no:Bool) (ord:List Int) (nr:Bool) (runs:List Int) (nk:Bool) (ks:List Int) (K:Int):D:=.agg [.list no (Bs ord),.list nr (Bs runs),.list nk (Bs ks),.int .i64 K]
theorem F3 (no:Bool) (ord:List Int) (nr:Bool) (runs:List Int) (nk:Bool) (ks:List Int) (K:Int):ji no ord nr runs nk ks K=.agg [.list no (Bs ord),.list nr (Bs runs),.list nk (Bs ks),.int .i64 K]:=rfl
theorem d8 {E s:Bv}(h1:s.at'=E.at') (h2:s.sp=E.sp):Na E s=true:=by unfold Na;rw[decide_eq_true h1,decide_eq_true h2];rfl
theorem d9 {E s:Bv}(h:¬(s.at'=E.at'/\s.sp=E.sp)):Na E s=false:=by
 cases hc:Na E s with
 |false=>rfl
 |true =>
  unfold Na at hc
  rw[Bool.and_eq_true,decide_eq_true_eq,decide_eq_true_eq] at hc
  exact absurd hc h
attribute [local congr] DX B3 B4 Bc DZ Bj Bl Bk Bb BN BF A6 Be BG Bg CD CE CF Cd Ce B9 Bf BL Bi BM B8 Cf BK CB CC B_ B6 B7 B2 DY B5 Bd BI BH BJ Bh CA
attribute [local irreducible] IntKind.wrap CK Option.getD and or
theorem Pv (a:A1) (q:GQ) (no:Bool) (ord:List Int) (nr:Bool) (runs:List Int) (nk:Bool) (ks:List Int) (K:Int) :
  Ca E0 L6 [FW a,Hy q,ji no ord nr runs nk ks K] (.bool true):=by
 refine AW P9 Aq (by simp) fun hwf=>?_
 simp only[ML,LG,LF,Iw,OK,OJ,Sm,OI,FA,Fm,Fn,LQ,Gl,List.length_map,FQ,true_and,and_true,Aa,AP] at hwf
 have c1:=SC a
 have cT:=Qc
 have c2:=JV a
 have c3:=SB q
 have c4:=D_ q.d
 unfold AG.check at c4
 obtain⟨e2,he2⟩:∃e,(if a.ok=true then (0:Int) else 60)=e:=⟨_,rfl⟩
 obtain⟨e4,he4⟩:∃e,(if q.d.ok=true then (0:Int) else 10)=e:=⟨_,rfl⟩
 obtain⟨b3,hb3⟩:∃b,V9 q=b:=⟨_,rfl⟩
 rw[he2] at c2
 rw[he4,AI,AD] at c4
 rw[Aa,AP] at c1 c2
 rw[hb3,Ai,AN] at c3
 rw[AZ];unfold KO
 (try (simp -implicitDefEqProofs only[go_sem,Aa,AP,Ai,AN,F3]));repeat' first|(with_reducible first|exact tI|refine aI ?_ ?_|intro _)|((first|with_reducible refine AU ?_ ?_<;>intro _|(with_reducible refine isCall ?_);first|refine AF c1 ?_|refine AF c2 ?_|refine AF c3 ?_|refine AF c4 ?_|refine AF cT ?_)<;>try (simp -implicitDefEqProofs only[go_sem,Aa,AP,Ai,AN,F3]))|simp (disch:=omega) only[Al]|((with_reducible refine Ba ?_);refine⟨(_,_,_),rfl,?_,?_⟩)|((with_reducible refine A0 ?_);refine⟨(_,_),rfl,?_,?_⟩)
 all_goals first|omega|(simp<;>omega)|skip
 have hok:a.ok=true:=by
  cases h:a.ok with
  |true=>rfl
  |false=>rw[h] at he2;simp at he2;omega
 have hd:q.d.ok=true:=by
  cases h:q.d.ok with
  |true=>rfl
  |false=>rw[h] at he4;simp at he4;omega
 obtain⟨hz200,hrl⟩:=am (hb3.trans ‹b3=false›)
 have hz:=hz200 hd
 have g:=Kv hok
 have gl:=g.l
 have c5:=En q.d hd
 have wl:IntKind.i64.wrap (a.last+1)=a.last+1:=Ad _ (by omega)
 obtain⟨n,hn⟩:∃n,q.d.cyls=n:=⟨_,rfl⟩
 rw[hn,AI,AD] at c5
 have c6:=LY a g nk ks
 rw[Aa,AP] at c6
 clear c1 c2 c3 c4
 (try (simp -implicitDefEqProofs only[go_sem,Aa,AP,Ai,AN,F3,wl]));repeat' first|(with_reducible first|exact tI|refine aI ?_ ?_|intro _)|((first|with_reducible refine AU ?_ ?_<;>intro _|(with_reducible refine isCall ?_);first|refine AF c5 ?_|refine AF c6 ?_|refine AF cT ?_)<;>try (simp -implicitDefEqProofs only[go_sem,Aa,AP,Ai,AN,F3,wl]))|simp (disch:=omega) only[Al]|((with_reducible refine Ba ?_);refine⟨(_,_,_),rfl,?_,?_⟩)|((with_reducible refine A0 ?_);refine⟨(_,_),rfl,?_,?_⟩)
 all_goals first|omega|(simp<;>omega)|skip
 have hk:OS a ks=true:=by assumption
 have hn41:1<=n/\n<=41:=by omega
 have c7:=Sb a g hok n (by omega) hn41.2
 rw[Aa,AP] at c7
 have c8:=R2 (Fq a) n K hn41 ⟨by omega,by omega⟩ (cH g)
 have hsl:=Rs (Fq a) K n n
 have hsp:=jZ (Fq a) K n
 obtain⟨S,hS⟩:∃S,Li (Fq a) K n n=S:=⟨_,rfl⟩
 rw[hS] at c8 hsl
 simp only[hS] at hsp
 cases hs:kD (Fq a) K n with
 |false =>
  rw[hs,if_neg (by simp)] at c8
  (try (simp -implicitDefEqProofs only[go_sem,Aa,AP,Ai,AN,F3,wl,CO]));repeat' first|(with_reducible first|exact tI|refine aI ?_ ?_|intro _)|((first|with_reducible refine AU ?_ ?_<;>intro _|(with_reducible refine isCall ?_);first|refine AF c7 ?_|refine AF c8 ?_|refine AF cT ?_)<;>try (simp -implicitDefEqProofs only[go_sem,Aa,AP,Ai,AN,F3,wl,CO]))|simp (disch:=omega) only[Al]|((with_reducible refine Ba ?_);refine⟨(_,_,_),rfl,?_,?_⟩)|((with_reducible refine A0 ?_);refine⟨(_,_),rfl,?_,?_⟩)
  all_goals first|omega|rfl|trace_state
 |true =>
 rw[hs,if_pos rfl] at c8
 have hsv:=fun i j hi hj=>kC (i:=i) (j:=j) hs hi hj
 obtain⟨Q,hQ⟩:∃Q,q.ws S=Q:=⟨_,rfl⟩
 have c9:=JU Q (by subst hQ;exact Nat.le_trans hrl (by omega)) (by subst hQ;show S.length<=1000;omega)
 have hQC:XV Q=[.int .i64 q.d.heads,.int .i64 q.d.turn,.list q.d.zn (FJ q.d.zones),.int .i64 q.d.hskew,.int .i64 q.d.cskew,.int .i64 q.d.hlo,.int .i64 q.d.hhi,.int .i64 q.d.clo,.int .i64 q.d.chi,.int .i64 q.cyl,.int .i64 q.pas,.list false (FJ S),.list q.nlr (M4 q.rq)]:=by subst hQ;rfl
 have hQd:Q.d=q.d:=by subst hQ;rfl
 have hQr:Q.rq=q.rq:=by subst hQ;rfl
 have hQs:Q.sk=S:=by subst hQ;rfl
 have hQc:Q.cyl=q.cyl:=by subst hQ;rfl
 have c10:=M5 Q no ord (by rw[hQr];omega) (by omega)
 rw[Ai,hQC,hQr] at c10
 rw[Ai,hQC] at c9
 obtain⟨e9,he9⟩:∃e,Q.check=e:=⟨_,rfl⟩
 obtain⟨b10,hb10⟩:∃b,Hl q.rq.length ord=b:=⟨_,rfl⟩
 rw[he9] at c9
 rw[hb10] at c10
 (try (simp -implicitDefEqProofs only[go_sem,Aa,AP,Ai,AN,F3,wl,CO,AL]));repeat' first|(with_reducible first|exact tI|refine aI ?_ ?_|intro _)|((first|with_reducible refine AU ?_ ?_<;>intro _|(with_reducible refine isCall ?_);first|refine AF c7 ?_|refine AF c8 ?_|refine AF c9 ?_|refine AF c10 ?_|refine AF cT ?_)<;>try (simp -implicitDefEqProofs only[go_sem,Aa,AP,Ai,AN,F3,wl,CO,AL]))|simp (disch:=omega) only[Al]|((with_reducible refine Ba ?_);refine⟨(_,_,_),rfl,?_,?_⟩)|((with_reducible refine A0 ?_);refine⟨(_,_),rfl,?_,?_⟩)
 all_goals first|omega|(simp<;>omega)|skip
 have gq:=dA (he9.trans ‹e9=0›)
 have hor:Hl q.rq.length ord=true:=hb10.trans ‹b10=true›
 have h4:q.rq.length<=4:=by omega
 have c11:=Qz Q gq (by rw[hQr];exact h4) (by rw[hQd];exact hz) no ord (by rw[hQr];exact hor)
 have hea:=fun i hi=>iP (q:=Q) (l:=ord) (by rw[hQr];exact hor) (i:=i) hi
 have hel:=WK Q ord Q.rq.length
 obtain⟨hol,hob,hod⟩:=Ki hor
 obtain⟨L,hL⟩:∃L,RO Q ord Q.rq.length=L:=⟨_,rfl⟩
 rw[hL] at c11 hel
 simp only[hL] at hea
 rw[Ai,hQC] at c11
 rw[hQr] at hel
 simp only[hQr] at hea
 have hLo:((L.length:Nat):Int)=(ord.length:Int):=by omega
 clear c5 c6 c7 c8 c9 c10
 (try (simp -implicitDefEqProofs only[go_sem,Aa,AP,Ai,AN,F3,wl,CO,AL,AY,hLo]));repeat' first|(with_reducible first|exact tI|refine aI ?_ ?_|intro _)|((first|with_reducible refine AU ?_ ?_<;>intro _|(with_reducible refine isCall ?_);first|refine AF c11 ?_|refine AF cT ?_)<;>try (simp -implicitDefEqProofs only[go_sem,Aa,AP,Ai,AN,F3,wl,CO,AL,AY,hLo]))|simp (disch:=omega) only[Al]|((with_reducible refine Ba ?_);refine⟨(_,_,_),rfl,?_,?_⟩)|((with_reducible refine A0 ?_);refine⟨(_,_),rfl,?_,?_⟩)
 all_goals first|omega|(simp<;>omega)|skip
 have hTp:0<Q.d.turn:=by rw[hQd];have:=(Bu hd).t1;omega
 have hn0:decide (n=0)=false:=by simp;omega
 have hobQ:∀i,i<ord.length->0<=ord[i]?.getD 0/\ord[i]?.getD 0<Q.rq.length:=fun i hi=>by rw[hQr];exact hob i (by omega)
 refine Ao (α:=Nat×Int×Int) (l0:=?l1) (m0:=?m1) (fun x=>[(15,.d (.int .i64 (x.1:Int))),(13,.d (.int .i64 x.2.1)),(14,.d (.int .i64 x.2.2))]) (fun x=>[]) (fun x=>x.1<=ord.length/\x.2.2=(Q.hds true ord x.1).1/\(Q.hds false ord x.1).2<=x.2.1/\x.2.1<=(Q.hds true ord x.1).2) (fun x=>ord.length-x.1) (0,0,q.cyl) ?h01 ?he1 ?he21 ?hI1 ?step1
 case h01=>(simp -implicitDefEqProofs only[go_sem];rfl)
 case he1=>rfl
 case he21=>rfl
 case' step1=>(rintro⟨i,now,v⟩ hI;try dsimp only at hI)
 case' hI1=>try dsimp only
 ·exact⟨by omega,hQc.symm,Int.le_refl _,Int.le_refl _⟩
 ·obtain⟨h1,h2,h3,h3'⟩:=hI
  by_cases hi:i<ord.length
  case neg =>
   have hi':¬(i:Int)<(ord.length:Int):=by omega
   (try (simp -implicitDefEqProofs only[go_sem,hi']));repeat' first|(with_reducible first|exact tI|refine aI ?_ ?_|intro _)|((first|with_reducible refine AU ?_ ?_<;>intro _|(with_reducible refine isCall ?_);first|refine AF cT ?_)<;>try (simp -implicitDefEqProofs only[go_sem,hi']))|simp (disch:=omega) only[Al]|((with_reducible refine Ba ?_);refine⟨(_,_,_),rfl,?_,?_⟩)|((with_reducible refine A0 ?_);refine⟨(_,_),rfl,?_,?_⟩)
   all_goals first|omega|rfl|trace_state
  have hi':(i:Int)<(ord.length:Int):=by omega
  have wi:IntKind.i64.wrap ((i:Int)+1)=((i+1:Nat):Int):=by rw[Ad _ (by omega)];omega
  have hQb:=UW gq (by rw[hQd];exact hz) true hobQ i h1
  have hQa:=UW gq (by rw[hQd];exact hz) false hobQ i h1
  have hci:=Y8 Q ord i
  have hsin:=fun s e=>ck (q:=Q) hTp (l:=ord) (i:=i) (now:=now) (s:=s) (e:=e) ⟨h3,h3'⟩
  have hla:=eG Q true ord i
  have hLi:=hea i (by omega)
  have hx:=hob i (by omega)
  obtain⟨x0,hx0⟩:∃x0,ord[i]?.getD 0=x0:=⟨_,rfl⟩
  rw[hx0] at hx hLi hla
  simp only[hx0] at hsin
  have hxl:x0.toNat<q.rq.length:=by omega
  have hxl':x0<(q.rq.length:Int):=by omega
  obtain⟨R,hR⟩:∃R,q.rq[x0.toNat]?.getD default=R:=⟨_,rfl⟩
  have hRq:Q.req x0=R:=by unfold GQ.req;rw[hQr,hR]
  have hru:=gq.run x0.toNat (by rw[hQr];exact hxl)
  rw[hQr,hR,hQd] at hru
  rw[hRq] at hla
  simp only[hRq,hQd,hQs] at hsin
  have hrb:=XP hd hz (a:=R.fr) (c:=R.cnt) hru
  have c1:=R8 q.d R.fr R.cnt
  rw[hrb.1,AI,AD] at c1
  obtain⟨lo,hlo⟩:∃lo,(q.d.run R.fr R.cnt).1.1=lo:=⟨_,rfl⟩
  obtain⟨up,hup⟩:∃up,(q.d.run R.fr R.cnt).1.2=up:=⟨_,rfl⟩
  rw[hlo,hup] at c1 hrb
  simp only[hlo,hup] at hsin
  have hc1:=Gk hd (n:=R.fr) (by omega)
  have hc2:=Gk hd (n:=R.fr+R.cnt-1) (by omega)
  have hlast:Q.last R=(q.d.pl (R.fr+R.cnt-1)).1:=by unfold GQ.last;rw[hQd]
  have hfst:Q.first R=(q.d.pl R.fr).1:=by unfold GQ.first;rw[hQd]
  rw[hlast] at hla
  rw[hfst] at hsin
  have c2:=Gx Q (by rw[hQd];exact hd) R.fr (by rw[hQd];omega)
  have c5:=Gx Q (by rw[hQd];exact hd) (R.fr+R.cnt-1) (by rw[hQd];omega)
  rw[hQd,Ai,hQC] at c2 c5
  rw[hn] at hc1 hc2
  rw[hQd,hn,←h2] at hQb
  rw[←h2] at hsin
  obtain⟨T,hT⟩:∃T:Nat,(q.d.pl R.fr).1=(T:Int):=⟨(q.d.pl R.fr).1.toNat,by omega⟩
  obtain⟨V,hV⟩:∃V:Nat,v=(V:Int):=⟨v.toNat,by omega⟩
  rw[hT] at c2 hc1
  rw[hT,hV] at hsin
  rw[ew] at hsin
  subst hV
  obtain⟨U,hU⟩:∃U,(q.d.pl (R.fr+R.cnt-1)).1=U:=⟨_,rfl⟩
  rw[hU] at c5 hc2 hla
  have hVn:V<n:=by omega
  have hTn:T<n:=by omega
  have hVn':(V:Int)<(n:Int):=by omega
  have hTn':(T:Int)<(n:Int):=by omega
  have hg:=VW (f:=Fq a) (p:=V) hTn
  have hsv1:=hsv V T hVn hTn
  have hsp1:=hsp V T hVn hTn
  have htb:=cH g V T
  have htv:=fun h=>Ym (a:=a) (i:=V) (t:=T) h
  have hes:=fun h1 h2=>bH (a:=a) (over:=V) (to:=T) hk h1 h2
  obtain⟨st,hst⟩:∃st,Fq a V T=st:=⟨_,rfl⟩
  rw[hst] at hg hsv1 hsp1 htb
  simp only[hst] at htv hes
  have hst0:0<=st:=by
   rcases (by omega:st=-1\/0<=st) with h|h
   ·subst h;omega
   ·exact h
  obtain⟨ss,hss⟩:∃ss,st*K=ss:=⟨_,rfl⟩
  rw[hss] at hsv1 hsp1
  have wss:IntKind.i64.wrap (st*K)=ss:=by rw[hss];exact Ad _ (by omega)
  have wf1:IntKind.i64.wrap (R.fr+R.cnt)=R.fr+R.cnt:=Ad _ (by have:=Cm (Bu hd);omega)
  have wf2:IntKind.i64.wrap (R.fr+R.cnt-1)=R.fr+R.cnt-1:=Ad _ (by have:=Cm (Bu hd);omega)
  have hir:i<runs.length:=by omega
  have hir':(i:Int)<(runs.length:Int):=by omega
  obtain⟨e,he⟩:∃e,runs[i]?.getD 0=e:=⟨_,rfl⟩
  have hse:=hsin ss e hsp1
  clear hsin hsp hsv hwf
  (try (simp -implicitDefEqProofs only[go_sem,hi',hi,hx0,Av,Az,AL,Bn,Bo,hR,hxl,hxl',hir,hir',he,CO,EC,Dl,Eu,hn0,hVn',hTn',hVn,hTn,hg,wss]));repeat' first|(with_reducible first|exact tI|refine aI ?_ ?_|intro _)|((first|with_reducible refine AU ?_ ?_<;>intro _|(with_reducible refine isCall ?_);first|refine AF c1 ?_|refine AF c2 ?_|refine AF cT ?_)<;>try (simp -implicitDefEqProofs only[go_sem,hi',hi,hx0,Av,Az,AL,Bn,Bo,hR,hxl,hxl',hir,hir',he,CO,EC,Dl,Eu,hn0,hVn',hTn',hVn,hTn,hg,wss]))|simp (disch:=omega) only[Al]|((with_reducible refine Ba ?_);refine⟨(_,_,_),rfl,?_,?_⟩)|((with_reducible refine A0 ?_);refine⟨(_,_),rfl,?_,?_⟩)
  all_goals first|omega|(simp<;>omega)|skip
  have hse:=hse (by omega)
  have c3:=Py Q gq x0 (by rw[hQr];exact⟨hx.1,hxl'⟩) now ss e (by omega) hsv1 (by omega)
  rw[hRq,Ai,hQC] at c3
  obtain⟨nw,hnw⟩:∃nw,Q.serveT R now ss e=nw:=⟨_,rfl⟩
  rw[hnw] at c3 hse
  obtain⟨l0,hl0⟩:∃l0,(Q.hds false ord (i+1)).2=l0:=⟨_,rfl⟩
  obtain⟨u0,hu0⟩:∃u0,(Q.hds true ord (i+1)).2=u0:=⟨_,rfl⟩
  rw[hl0,hu0] at hse hLi
  have hxL:x0.toNat<L.length:=by omega
  have hxL':x0<(L.length:Int):=by omega
  have k6:¬nw<l0:=by omega
  have k7:¬u0<nw:=by omega
  have hU':U=(Q.hds true ord (i+1)).1:=hla.symm
  have hnext:l0<=nw/\nw<=u0:=hse
  by_cases hsk:st<=(ks.length:Int)
  case neg =>
   (try (simp -implicitDefEqProofs only[go_sem,hi',hi,hx0,wss,AY,Ar,An,BR,hLi,hxL,hxL',k6,k7,hsk,wf1,wf2,wi]));repeat' first|(with_reducible first|exact tI|refine aI ?_ ?_|intro _)|((first|with_reducible refine AU ?_ ?_<;>intro _|(with_reducible refine isCall ?_);first|refine AF c3 ?_|refine AF c5 ?_|refine AF cT ?_)<;>try (simp -implicitDefEqProofs only[go_sem,hi',hi,hx0,wss,AY,Ar,An,BR,hLi,hxL,hxL',k6,k7,hsk,wf1,wf2,wi]))|simp (disch:=omega) only[Al]|((with_reducible refine Ba ?_);refine⟨(_,_,_),rfl,?_,?_⟩)|((with_reducible refine A0 ?_);refine⟨(_,_),rfl,?_,?_⟩)
   all_goals first|omega|exact hU'|exact(by rw[hl0];exact hnext.1)|exact(by rw[hu0];exact hnext.2)|rfl|trace_state
  have hv:=htv hst0
  have hE:=hes hst0 (by omega)
  obtain⟨sn,hsn⟩:∃sn:Nat,st=(sn:Int):=⟨st.toNat,by omega⟩
  rw[hsn,Int.toNat_natCast] at hE
  have htl:(ks.take sn).length=sn:=by rw[List.length_take];omega
  have c6:=We a (T:Int) ⟨(V:Int),0⟩ nk (ks.take sn) (cQ hok (by omega) (by omega)) (VQ hk sn)
  have hm:CI (Ew a (T:Int)) ⟨(V:Int),0⟩=true:=by unfold CI;rw[hv];rfl
  rw[hm,if_pos rfl,htl] at c6
  have c7:=Sd a g hok (T:Int) ⟨by omega,by omega⟩
  have hPl:(W9 a (T:Int)).length<=697:=Nat.le_trans (List.length_filter_le _ _) (Gt g)
  obtain⟨P,hP⟩:∃P,W9 a (T:Int)=P:=⟨_,rfl⟩
  rw[hP] at c7 hE hPl
  have hrl:=VV a (Ew a (T:Int)) ⟨(V:Int),0⟩ (ks.take sn) sn
  have hrg:0<sn->(Qr a (Ew a (T:Int)) ⟨(V:Int),0⟩ (ks.take sn) sn)[sn-1]?.getD default=M3 a (Ew a (T:Int)) ⟨(V:Int),0⟩ (ks.take sn) sn:=fun h=>by
   unfold Qr
   rw[List.getElem?_map,List.getElem?_range (by omega),Option.map_some,Option.getD_some,show sn-1+1=sn by omega]
  have hr0:sn=0->M3 a (Ew a (T:Int)) ⟨(V:Int),0⟩ (ks.take sn) sn=⟨(V:Int),0⟩:=fun h=>by subst h;rfl
  obtain⟨RS,hRS⟩:∃RS,Qr a (Ew a (T:Int)) ⟨(V:Int),0⟩ (ks.take sn) sn=RS:=⟨_,rfl⟩
  obtain⟨E,hEE⟩:∃E,M3 a (Ew a (T:Int)) ⟨(V:Int),0⟩ (ks.take sn) sn=E:=⟨_,rfl⟩
  rw[hRS] at c6 hrl
  simp only[hRS,hEE] at hrg hr0
  rw[hEE] at hE
  have hany:=kx hE
  rw[Aa,AP] at c7
  rw[Aa,AP,Ah,Af] at c6
  rw[show (⟨(V:Int),0⟩:Bv).at'=(V:Int) from rfl,show (⟨(V:Int),0⟩:Bv).sp=0 from rfl] at c6
  have hsk':(sn:Int)<=(ks.length:Int):=by omega
  have hskn:sn<=ks.length:=by omega
  rw[hsn] at wss
  clear htv hes hv
  by_cases hz:sn=0
  ·have hz':¬(0:Int)<(sn:Int):=by omega
   have hE0:=hr0 hz
   have ha1:E.at'=(V:Int):=by rw[hE0]
   have ha2:E.sp=0:=by rw[hE0]
   (try (simp -implicitDefEqProofs only[go_sem,hsn,hi',hi,hx0,wss,AY,Ar,An,BR,hLi,hxL,hxL',k6,k7,hsk',hskn,hz',BS,hrl]));repeat' first|(with_reducible first|exact tI|refine aI ?_ ?_|intro _)|((first|with_reducible refine AU ?_ ?_<;>intro _|(with_reducible refine isCall ?_);first|refine AF c3 ?_|refine AF c6 ?_|refine AF c7 ?_|refine AF cT ?_)<;>try (simp -implicitDefEqProofs only[go_sem,hsn,hi',hi,hx0,wss,AY,Ar,An,BR,hLi,hxL,hxL',k6,k7,hsk',hskn,hz',BS,hrl]))|simp (disch:=omega) only[Al]|((with_reducible refine Ba ?_);refine⟨(_,_,_),rfl,?_,?_⟩)|((with_reducible refine A0 ?_);refine⟨(_,_),rfl,?_,?_⟩)
   all_goals first|omega|(simp<;>omega)|skip
   refine Ao (α:=Nat×Bool) (l0:=?l2) (m0:=?m2) (fun x=>[(27,.d (.int .i64 (x.1:Int))),(26,.d (.bool x.2))]) (fun x=>[]) (fun x=>x.1<=P.length/\x.2=(P.take x.1).any (Na E)) (fun x=>P.length-x.1) (0,false) ?h02 ?he2 ?he22 ?hI2 ?step2
   case h02=>(simp -implicitDefEqProofs only[go_sem,BS];rfl)
   case he2=>rfl
   case he22=>rfl
   case' step2=>(rintro⟨k,fd⟩ hI2;try dsimp only at hI2)
   case' hI2=>try dsimp only
   ·exact⟨by omega,rfl⟩
   ·obtain⟨p1,p2⟩:=hI2
    change fd=(P.take k).any (Na E) at p2
    by_cases hkp:k<P.length
    ·have hkp':(k:Int)<(P.length:Int):=by omega
     have wk:IntKind.i64.wrap ((k:Int)+1)=((k+1:Nat):Int):=by rw[Ad _ (by omega)];omega
     have hs1:=Tl hkp (Na E)
     rw[←p2] at hs1
     obtain⟨y,hy⟩:∃y,P[k]?.getD default=y:=⟨_,rfl⟩
     rw[hy] at hs1
     clear p2 hany
     cases fd
     all_goals ((try (simp -implicitDefEqProofs only[go_sem,hkp',hkp,BS,C9,DF,Ah,Af,hy,wk]));repeat' first|(with_reducible first|exact tI|refine aI ?_ ?_|intro _)|((first|with_reducible refine AU ?_ ?_<;>intro _)<;>try (simp -implicitDefEqProofs only[go_sem,hkp',hkp,BS,C9,DF,Ah,Af,hy,wk]))|simp (disch:=omega) only[Al]|((with_reducible refine Ba ?_);refine⟨(_,_,_),rfl,?_,?_⟩)|((with_reducible refine A0 ?_);refine⟨(_,_),rfl,?_,?_⟩))
     all_goals first|omega|(rw[hs1];first|(simp;done)|(rw[d8 (by omega) (by omega)];simp;done)|(rw[d9 (by omega)];simp;done))|trace_state
    ·have hkp':¬(k:Int)<(P.length:Int):=by omega
     have hke:k=P.length:=by omega
     subst hke
     rw[List.take_length,hany] at p2
     subst p2
     (try (simp -implicitDefEqProofs only[go_sem,hkp',BS,wf1,wf2,wi]));repeat' first|(with_reducible first|exact tI|refine aI ?_ ?_|intro _)|((first|with_reducible refine AU ?_ ?_<;>intro _|(with_reducible refine isCall ?_);first|refine AF c5 ?_|refine AF cT ?_)<;>try (simp -implicitDefEqProofs only[go_sem,hkp',BS,wf1,wf2,wi]))|simp (disch:=omega) only[Al]|((with_reducible refine Ba ?_);refine⟨(_,_,_),rfl,?_,?_⟩)|((with_reducible refine A0 ?_);refine⟨(_,_),rfl,?_,?_⟩)
     all_goals first|omega|exact hU'|exact(by rw[hl0];exact hnext.1)|exact(by rw[hu0];exact hnext.2)|rfl|trace_state
  ·have hz':(0:Int)<(sn:Int):=by omega
   have hE1:=hrg (by omega)
   have wm:IntKind.i64.wrap ((sn:Int)-1)=((sn-1:Nat):Int):=by rw[Ad _ (by omega)];omega
   have hm1:sn-1<RS.length:=by omega
   have hm1':((sn-1:Nat):Int)<(RS.length:Int):=by omega
   have hm2':((sn-1:Nat):Int)<(sn:Int):=by omega
   (try (simp -implicitDefEqProofs only[go_sem,hsn,hi',hi,hx0,wss,AY,Ar,An,BR,hLi,hxL,hxL',k6,k7,hsk',hskn,hz',BS,hrl,wm,hm1,hm1',hm2',C9,DF,Ah,Af,hE1]));repeat' first|(with_reducible first|exact tI|refine aI ?_ ?_|intro _)|((first|with_reducible refine AU ?_ ?_<;>intro _|(with_reducible refine isCall ?_);first|refine AF c3 ?_|refine AF c6 ?_|refine AF c7 ?_|refine AF cT ?_)<;>try (simp -implicitDefEqProofs only[go_sem,hsn,hi',hi,hx0,wss,AY,Ar,An,BR,hLi,hxL,hxL',k6,k7,hsk',hskn,hz',BS,hrl,wm,hm1,hm1',hm2',C9,DF,Ah,Af,hE1]))|simp (disch:=omega) only[Al]|((with_reducible refine Ba ?_);refine⟨(_,_,_),rfl,?_,?_⟩)|((with_reducible refine A0 ?_);refine⟨(_,_),rfl,?_,?_⟩)
   all_goals first|omega|(simp<;>omega)|skip
   refine Ao (α:=Nat×Bool) (l0:=?l3) (m0:=?m3) (fun x=>[(27,.d (.int .i64 (x.1:Int))),(26,.d (.bool x.2))]) (fun x=>[]) (fun x=>x.1<=P.length/\x.2=(P.take x.1).any (Na E)) (fun x=>P.length-x.1) (0,false) ?h03 ?he3 ?he23 ?hI3 ?step3
   case h03=>(simp -implicitDefEqProofs only[go_sem,BS];rfl)
   case he3=>rfl
   case he23=>rfl
   case' step3=>(rintro⟨k,fd⟩ hI3;try dsimp only at hI3)
   case' hI3=>try dsimp only
   ·exact⟨by omega,rfl⟩
   ·obtain⟨p1,p2⟩:=hI3
    change fd=(P.take k).any (Na E) at p2
    by_cases hkp:k<P.length
    ·have hkp':(k:Int)<(P.length:Int):=by omega
     have wk:IntKind.i64.wrap ((k:Int)+1)=((k+1:Nat):Int):=by rw[Ad _ (by omega)];omega
     have hs1:=Tl hkp (Na E)
     rw[←p2] at hs1
     obtain⟨y,hy⟩:∃y,P[k]?.getD default=y:=⟨_,rfl⟩
     rw[hy] at hs1
     clear p2 hany
     cases fd
     all_goals ((try (simp -implicitDefEqProofs only[go_sem,hkp',hkp,BS,C9,DF,Ah,Af,hy,wk]));repeat' first|(with_reducible first|exact tI|refine aI ?_ ?_|intro _)|((first|with_reducible refine AU ?_ ?_<;>intro _)<;>try (simp -implicitDefEqProofs only[go_sem,hkp',hkp,BS,C9,DF,Ah,Af,hy,wk]))|simp (disch:=omega) only[Al]|((with_reducible refine Ba ?_);refine⟨(_,_,_),rfl,?_,?_⟩)|((with_reducible refine A0 ?_);refine⟨(_,_),rfl,?_,?_⟩))
     all_goals first|omega|(rw[hs1];first|(simp;done)|(rw[d8 (by omega) (by omega)];simp;done)|(rw[d9 (by omega)];simp;done))|trace_state
    ·have hkp':¬(k:Int)<(P.length:Int):=by omega
     have hke:k=P.length:=by omega
     subst hke
     rw[List.take_length,hany] at p2
     subst p2
     (try (simp -implicitDefEqProofs only[go_sem,hkp',BS,wf1,wf2,wi]));repeat' first|(with_reducible first|exact tI|refine aI ?_ ?_|intro _)|((first|with_reducible refine AU ?_ ?_<;>intro _|(with_reducible refine isCall ?_);first|refine AF c5 ?_|refine AF cT ?_)<;>try (simp -implicitDefEqProofs only[go_sem,hkp',BS,wf1,wf2,wi]))|simp (disch:=omega) only[Al]|((with_reducible refine Ba ?_);refine⟨(_,_,_),rfl,?_,?_⟩)|((with_reducible refine A0 ?_);refine⟨(_,_),rfl,?_,?_⟩)
     all_goals first|omega|exact hU'|exact(by rw[hl0];exact hnext.1)|exact(by rw[hu0];exact hnext.2)|rfl|trace_state
end Go.Pw
end

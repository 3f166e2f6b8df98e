/- A part of the proof. -/
import Derived.Test.YtpcpcjbbdgmohaaTsLgI
set_option linter.all false
open Go Go.Pw Go.Proofs
namespace Go.Pw
set_option maxRecDepth 100000
set_option maxHeartbeats 6400000
theorem ST {E:C3} {rs ety es nl l s}:d9 E rs ety es nl l .ret s=Gd E s rs (WZ s.V ety es nl l):=rfl
theorem ND {E:C3} {rs ety es nl l s}:d9 E rs ety es nl l .normal s=Gd E s rs (WZ s.V ety es nl l):=rfl
theorem SS {V:AB} {ety es nl l o g}:WZ V ety es nl l [.own o g]=(V.get o g=some (.row ety es nl l)):=rfl
theorem Eb {α:Type}{f:α->D}(h:∀x,((f x).cells.all D.prim)=true) (l:List α):Gn (l.map f)=true:=by
 unfold Gn;rw[List.all_eq_true];intro x hx;obtain⟨y,_,rfl⟩:=List.mem_map.1 hx;exact h y
theorem EQ (l:List Int):Gn (Bi l)=true:=Eb (f:=D.int .i64) (fun _=>rfl) l
theorem f3 {s:Ap}(h:s.med.length=6):s.med=[s.m 0,s.m 1,s.m 2,s.m 3,s.m 4,s.m 5]:=by
 obtain⟨a,b,c,d,e,f,hm⟩:=RN h
 unfold Ap.m;rw[hm];rfl
theorem OY {c:Au}{ds:List Ew}{s:Ap}{a k:Nat}(hk:k<ds.length):El c (ds.drop k) s a=if (decide ((a:Int)<=(ds[k]?.getD default).aft) && decide ((ds[k]?.getD default).aft<=c.ords.length)) && HS (ds[k]?.getD default).blk 0 (c.blocks-1)=true then
   (if (s.ordN c a ((ds[k]?.getD default).aft.toNat-a)).can (ds[k]?.getD default).blk.toNat=true then El c (ds.drop (k+1)) ((s.ordN c a ((ds[k]?.getD default).aft.toNat-a)).drain (ds[k]?.getD default).blk.toNat) (ds[k]?.getD default).aft.toNat else none)
  else none:=by
 rw[List.drop_eq_getElem_cons hk,El,List.getElem?_eq_getElem hk];rfl
structure Ap.Fit (s:Ap) (a:Nat):Prop where
 ok:s.Ok
 ne:1<=s.eps.length
 le:s.eps.length<=a+1
theorem QY:Ap.begin.Fit 0:=⟨⟨rfl,fun r hr=>by simp[Ap.begin] at hr;subst hr;rfl⟩,Nat.le_refl _,Nat.le_refl _⟩
theorem Rz {s:Ap}(h:1<=s.eps.length):1<=s.tidy.eps.length/\s.tidy.eps.length<=s.eps.length:=by
 rw[OG,List.length_append]
 have:=List.length_filter_le Vr (s.eps.take s.last)
 rw[List.length_take] at this
 unfold Ap.last at this ⊢
 simp only[List.length_cons,List.length_nil]
 omega
theorem bc {s:Ap}(h:s.Ok) (hne:1<=s.eps.length):s.tidy.Ok:=by
 refine⟨h.ml,fun r hr=>?_⟩
 rw[OG,List.mem_append,List.mem_singleton] at hr
 rcases hr with hr|rfl
 ·exact h.el r (List.mem_of_mem_take (List.mem_filter.1 hr).1)
 ·exact h.el _ (BL (by unfold Ap.last;omega))
theorem S5 {s:Ap}{a:Nat}(h:s.Fit a):s.tidy.Fit a:=⟨bc h.ok h.ne,(Rz h.ne).1,by have:=(Rz h.ne).2;have:=h.le;omega⟩
theorem XJ {s:Ap}{a:Nat}(h:s.Fit a) (n:Int) (o:Cx):(s.order n o).Fit (a+1):=by
 have hl:s.last<s.eps.length:=by have:=h.ne;unfold Ap.last;omega
 unfold Ap.order
 apply S5
 have h1:(s.setL o.blk.toNat n).Fit (a+1):=⟨E4 h.ok h.ne _ _,by rw[Cj];exact h.ne,by rw[Cj];have:=h.le;omega⟩
 split
 ·exact h1
 ·split
  ·have hl1:(s.setL o.blk.toNat n).last<(s.setL o.blk.toNat n).eps.length:=by rw[GF,Cj];exact hl
   exact⟨FG (HF h1.ok _ (by omega)) (by rw[Cp];exact hl1),by rw[Bz,Cp];exact h1.ne,by rw[Bz,Cp];exact h1.le⟩
  ·split
   ·refine⟨⟨h.ok.ml,fun r hr=>?_⟩,by simp,by have:=h.le;simp;omega⟩
    rcases List.mem_append.1 hr with hr|hr
    ·exact h.ok.el r hr
    ·rw[List.mem_singleton.1 hr];rfl
   ·split
    ·exact⟨HF h.ok _ (Nat.le_refl _),by rw[Cp];exact h.ne,by rw[Cp];have:=h.le;omega⟩
    ·exact⟨h.ok,h.ne,by have:=h.le;omega⟩
theorem Jw {c:Au}{s:Ap}{a:Nat}(h:s.Fit a):∀k,(s.ordN c a k).Fit (a+k)
 |0=>h
 |k+1=>XJ (Jw h k) _ _
theorem QX {s:Ap}{a b:Nat}(h:s.Fit a):(s.drain b).Fit a:=by
 unfold Ap.drain
 apply S5
 have he:s.first.getD 0<s.eps.length:=by
  cases hf:s.first with
  |none=>have:=h.ne;simp;omega
  |some e =>
   unfold Ap.first at hf
   rw[List.findIdx?_eq_some_iff_getElem] at hf
   exact hf.1
 exact⟨FG h.ok he,by rw[Bz];exact h.ne,by rw[Bz];exact h.le⟩
theorem S6 {s:Ap}{a b:Nat}(h:s.Fit a) (hab:a<=b):s.Fit b:=⟨h.ok,h.ne,by have:=h.le;omega⟩
theorem Nw {o:Cx}{b:Int}(h:o.ok b=true) (hb:b<=6):o.fit:=by
 have h0:=h
 simp only[Cx.ok,Bool.or_eq_true,Bool.and_eq_true,decide_eq_true_eq,HS] at h
 rcases h with⟨hp,h1,h2⟩|⟨h3|h4,_⟩
 ·simp only[Cx.puts,Bool.or_eq_true,decide_eq_true_eq] at hp
  exact .inl ⟨hp,by omega,by omega⟩
 ·exact .inr (.inl h3)
 ·exact .inr (.inr h4)
attribute [local congr] Dy CG CH Bn D0 Bu Bw Bv Bm BU BN BG Bp BO Br CT CU CS CV CW CX Bo CN CM Bq BS Bt BT CK C8 BR CQ CR CL CI CJ Dz BP BQ Bs CO CP
attribute [local irreducible] IntKind.wrap Cf Option.getD and or
theorem C_ (xs:List Int) (hl:xs.length<=1000) (hne:0<xs.length):dQ E0 F1 [.list false (Bi xs)] 3 1 false (Bi xs):=by
 refine UF Ht A3 (by simp) fun hwf=>?_
 rw[Az];unfold FV
 have hn:¬xs=[]:=by intro h;rw[h] at hne;simp at hne
 (try (simp -implicitDefEqProofs only[go_sem,hn,ST,ND,SS]));repeat' first|(with_reducible first|exact tI|refine aI ?_ ?_|intro _)|((first|with_reducible refine Af ?_ ?_<;>intro _)<;>try (simp -implicitDefEqProofs only[go_sem,hn,ST,ND,SS]))|simp (disch:=omega) only[A8]
 all_goals first|omega|rfl
theorem J3 (c:Au) (hc:c.ok=true) (hb3:c.blocks<=3) (nd:Bool) (ds:List Ew) (torn:Bool) :
  E9 E0 Mc [HN c,.list nd (Oy ds),.bool torn] (.tup [if Ek c ds torn=0 then .list false (Bi (Fj c ds torn)) else .list true [],.int .i64 (Ek c ds torn)]):=by
 refine Ao O6 A3 (by simp) fun hwf=>?_
 simp only[Md,LT,LS,KF,N_,N9,Rr,N8,GN,G5,G6,L7,IJ,List.length_map,HI,true_and,and_true,Aj] at hwf
 have cb:=Cr hc
 have c1:=Nq c
 rw[Y4 hc] at c1
 rw[Am,AI] at c1
 have wb:IntKind.i64.wrap (c.blocks-1)=c.blocks-1:=BM _ (by omega)
 have hE:Ek c ds torn=if decide (16<ds.length) || Pr c ds torn then 1 else if (RF c ds torn).isNone then 1 else 0:=by unfold Ek;rw[hc];rfl
 rw[Az];unfold Ks
 by_cases h16:16<ds.length
 ·have h16':(16:Int)<(ds.length:Int):=by omega
  rw[decide_eq_true h16,Bool.true_or,if_pos rfl] at hE
  rw[hE,if_neg (by decide)]
  (try (simp -implicitDefEqProofs only[go_sem,Am,AI,AG,Aj,h16']));repeat' first|(with_reducible first|exact tI|refine aI ?_ ?_|intro _)|((first|with_reducible refine Af ?_ ?_<;>intro _|(with_reducible refine isCall ?_);first|refine Ae c1 ?_)<;>try (simp -implicitDefEqProofs only[go_sem,Am,AI,AG,Aj,h16']))|simp (disch:=omega) only[A8]|((with_reducible refine B5 ?_);refine⟨(_,_,_),rfl,?_,?_⟩)|((with_reducible refine BF ?_);refine⟨_,rfl,?_,?_⟩)
  all_goals first|rfl|omega|skip
 have h16':¬(16:Int)<(ds.length:Int):=by omega
 rw[decide_eq_false h16,Bool.false_or] at hE
 have wl:0<ds.length->IntKind.i64.wrap ((ds.length:Int)-1)=((ds.length-1:Nat):Int):=fun h=>by rw[BM _ (by omega)];omega
 cases torn with
 |false =>
  have hE2:Ek c ds false=if (RF c ds false).isNone then 1 else 0:=by rw[hE];unfold Pr;simp
  obtain⟨P,hP⟩:∃P,Ek c ds false=P:=⟨_,rfl⟩
  (try (simp -implicitDefEqProofs only[go_sem,Am,AI,AG,Aj,h16',C1]));repeat' first|(with_reducible first|exact tI|refine aI ?_ ?_|intro _)|((first|with_reducible refine Af ?_ ?_<;>intro _|(with_reducible refine isCall ?_);first|refine Ae c1 ?_|(refine Ad ([]) ([((5,1),(42,0)),((3,1),(10042,0))]) (QF) (by repeat' first|exact True.intro|exact rfl|refine And.intro ?_ ?_) (by simp[AW,Ah.get,AE.ren,AV.ren,AV.ren.renL,AB.get,AX,Ag,AY,AB.reach,AV.sites,AV.sites.sitesL,AB.osites]) (by simp[AL,Aq,AK,Ah.get,AY,A2,A9,AZ,AM]) (by rfl) (by simp only[Ai,Ah.get,AE.ren,AV.ren,AV.ren.renL,and_self,and_true,true_and,if_true,reduceIte];rfl) ?_))<;>try (simp -implicitDefEqProofs only[go_sem,Am,AI,AG,Aj,h16',C1]))|simp (disch:=omega) only[A8]|((with_reducible refine B5 ?_);refine⟨(_,_,_),rfl,?_,?_⟩)|((with_reducible refine BF ?_);refine⟨_,rfl,?_,?_⟩)
  refine BB (α:=Nat×Nat×Ap) (l0:=?l1) (m0:=?m1) (fun x=>[(45,.d (.int .i64 (x.1:Int))),(10,.d (.int .i64 (x.2.1:Int)))]) (fun x=>[(42,.cells [.d (.int .i64 (x.2.2.m 0)),.d (.int .i64 (x.2.2.m 1)),.d (.int .i64 (x.2.2.m 2)),.d (.int .i64 (x.2.2.m 3)),.d (.int .i64 (x.2.2.m 4)),.d (.int .i64 (x.2.2.m 5)),.own 10042 0,.d (.int .i64 x.2.2.wr)]),(10042,.row 125 6 false (C2 x.2.2.eps))]) (fun x=>(x.1<=ds.length/\x.2.1<=c.ords.length)/\x.2.2.Fit x.2.1/\El c (ds.drop x.1) x.2.2 x.2.1=El c ds Ap.begin 0) (fun x=>ds.length-x.1) (0,0,Ap.begin) ?h01 ?he1 ?he21 ?hI1 ?step1
  case h01=>(simp -implicitDefEqProofs only[go_sem,C1];rfl)
  case he1=>rfl
  case he21=>rfl
  case' step1=>(rintro⟨k,a,s⟩ hI;try dsimp only at hI)
  case' hI1=>try dsimp only
  ·exact⟨⟨Nat.zero_le _,Nat.zero_le _⟩,QY,rfl⟩
  ·obtain⟨⟨k1,a1⟩,hf,hp⟩:=hI
   by_cases hk:k<ds.length
   ·have hk':(k:Int)<(ds.length:Int):=by omega
    have hst:=OY (c:=c) (s:=s) (a:=a) hk
    rw[hp] at hst
    obtain⟨d,hd⟩:∃d,ds[k]?.getD default=d:=⟨_,rfl⟩
    rw[hd] at hst
    have cA:=Dh d.aft a c.ords.length
    have cB:=Dh d.blk 0 (c.blocks-1)
    have wk:IntKind.i64.wrap ((k:Int)+1)=((k+1:Nat):Int):=by rw[BM _ (by omega)];omega
    obtain⟨qa,hqa⟩:∃q,HS d.aft a c.ords.length=q:=⟨_,rfl⟩
    obtain⟨qb,hqb⟩:∃q,HS d.blk 0 (c.blocks-1)=q:=⟨_,rfl⟩
    rw[hqa] at cA
    rw[hqb] at cB hst
    rw[show (decide ((a:Int)<=d.aft) && decide (d.aft<=c.ords.length))=qa from hqa] at hst
    have hbad:El c ds Ap.begin 0=none->Ek c ds false=1:=fun h=>by rw[hE2];unfold RF;rw[h];rfl
    cases qa with
    |false =>
     have h1:=hbad (by rw[hst];simp)
     (try (simp -implicitDefEqProofs only[go_sem,Am,AI,AG,Aj,Ax,A1,Bg,hd,hk',Int.toNat_natCast]));repeat' first|(with_reducible first|exact tI|refine aI ?_ ?_|intro _)|((first|with_reducible refine Af ?_ ?_<;>intro _|(with_reducible refine isCall ?_);first|refine Ae cA ?_)<;>try (simp -implicitDefEqProofs only[go_sem,Am,AI,AG,Aj,Ax,A1,Bg,hd,hk',Int.toNat_natCast]))|simp (disch:=omega) only[A8]|((with_reducible refine B5 ?_);refine⟨(_,_,_),rfl,?_,?_⟩)|((with_reducible refine BF ?_);refine⟨_,rfl,?_,?_⟩)
     all_goals first|omega|(rw[h1];rfl)|skip
    |true =>
     cases qb with
     |false =>
      have h1:=hbad (by rw[hst];simp)
      (try (simp -implicitDefEqProofs only[go_sem,Am,AI,AG,Aj,Ax,A1,Bg,hd,hk',Int.toNat_natCast,wb]));repeat' first|(with_reducible first|exact tI|refine aI ?_ ?_|intro _)|((first|with_reducible refine Af ?_ ?_<;>intro _|(with_reducible refine isCall ?_);first|refine Ae cA ?_|refine Ae cB ?_)<;>try (simp -implicitDefEqProofs only[go_sem,Am,AI,AG,Aj,Ax,A1,Bg,hd,hk',Int.toNat_natCast,wb]))|simp (disch:=omega) only[A8]|((with_reducible refine B5 ?_);refine⟨(_,_,_),rfl,?_,?_⟩)|((with_reducible refine BF ?_);refine⟨_,rfl,?_,?_⟩)
      all_goals first|omega|(rw[h1];rfl)|skip
     |true =>
      simp only[Bool.and_self,Bool.true_and,decide_true,if_true] at hst
      simp only[HS,Bool.and_eq_true,decide_eq_true_eq] at hqa hqb
      obtain⟨da,db⟩:=d
      simp only at hqa hqb hst cA cB
      obtain⟨A,rfl⟩:∃A:Nat,da=(A:Int):=⟨da.toNat,by omega⟩
      obtain⟨B,rfl⟩:∃B:Nat,db=(B:Int):=⟨db.toNat,by omega⟩
      simp only[Int.toNat_natCast] at hst
      have hA:A<=c.ords.length:=by omega
      have hB:B<6:=by omega
      (try (simp -implicitDefEqProofs only[go_sem,Am,AI,AG,Aj,Ax,A1,Bg,hd,hk',Int.toNat_natCast,wb]));repeat' first|(with_reducible first|exact tI|refine aI ?_ ?_|intro _)|((first|with_reducible refine Af ?_ ?_<;>intro _|(with_reducible refine isCall ?_);first|refine Ae cA ?_|refine Ae cB ?_)<;>try (simp -implicitDefEqProofs only[go_sem,Am,AI,AG,Aj,Ax,A1,Bg,hd,hk',Int.toNat_natCast,wb]))|simp (disch:=omega) only[A8]|((with_reducible refine B5 ?_);refine⟨(_,_,_),rfl,?_,?_⟩)|((with_reducible refine BF ?_);refine⟨_,rfl,?_,?_⟩)
      all_goals first|omega|(simp<;>omega)|skip
      refine BB (α:=Nat) (l0:=?l2) (m0:=?m2) (fun x=>[(10,.d (.int .i64 ((a+x:Nat):Int)))]) (fun x=>[(42,.cells [.d (.int .i64 ((s.ordN c a x).m 0)),.d (.int .i64 ((s.ordN c a x).m 1)),.d (.int .i64 ((s.ordN c a x).m 2)),.d (.int .i64 ((s.ordN c a x).m 3)),.d (.int .i64 ((s.ordN c a x).m 4)),.d (.int .i64 ((s.ordN c a x).m 5)),.own 10042 0,.d (.int .i64 (s.ordN c a x).wr)]),(10042,.row 125 6 false (C2 (s.ordN c a x).eps))]) (fun x=>a+x<=A) (fun x=>A-(a+x)) 0 ?h02 ?he2 ?he22 ?hI2 ?step2
      case h02=>(simp -implicitDefEqProofs only[go_sem,Ap.ordN];rfl)
      case he2=>rfl
      case he22=>rfl
      case' step2=>(rintro i hI2;try dsimp only at hI2)
      case' hI2=>try dsimp only
      ·omega
      ·have hfi:=Jw (c:=c) hf i
       by_cases hlt:a+i<A
       ·have hlt':((a+i:Nat):Int)<(A:Int):=by omega
        have hlo:a+i<c.ords.length:=by omega
        have hlo':((a+i:Nat):Int)<(c.ords.length:Int):=by omega
        have wi:IntKind.i64.wrap (((a+i:Nat):Int)+1)=((a+(i+1):Nat):Int):=by rw[BM _ (by omega)];omega
        have hnext:(s.ordN c a i).order ((a+i:Nat):Int) (c.ords[a+i]?.getD default)=s.ordN c a (i+1):=rfl
        have hof:=Nw (Fe hc hlo) cb.2.1
        obtain⟨o,ho⟩:∃o,c.ords[a+i]?.getD default=o:=⟨_,rfl⟩
        rw[ho] at hnext hof
        obtain⟨g,hg,ct⟩:=KN (s.ordN c a i) hfi.ok hfi.ne (by have:=hfi.le;omega) ((a+i:Nat):Int) o hof
        rw[hnext,Aa,Ab] at ct
        unfold LX C1 at ct
        rcases hg with rfl|rfl
        ·(try (simp -implicitDefEqProofs only[go_sem,AI,AG,A',BH,Aa,Ab,ho,hlt',hlo,hlo',wi,Int.toNat_natCast]));repeat' first|(with_reducible first|exact tI|refine aI ?_ ?_|intro _)|((first|with_reducible refine Af ?_ ?_<;>intro _|(with_reducible refine isCall ?_);first|(refine Ad ([((900000,0),(42,0)),((801000,0),(10042,0))]) ([((900000,0),(42,0)),((801000,1),(10042,1))]) (ct) (by repeat' first|exact True.intro|exact rfl|refine And.intro ?_ ?_) (by simp[AW,Ah.get,AE.ren,AV.ren,AV.ren.renL,AB.get,AX,Ag,AY,AB.reach,AV.sites,AV.sites.sitesL,AB.osites]) (by simp[AL,Aq,AK,Ah.get,AY,A2,A9,AZ,AM]) (by rfl) (by simp only[Ai,Ah.get,AE.ren,AV.ren,AV.ren.renL,and_self,and_true,true_and,if_true,reduceIte];rfl) ?_))<;>try (simp -implicitDefEqProofs only[go_sem,AI,AG,A',BH,Aa,Ab,ho,hlt',hlo,hlo',wi,Int.toNat_natCast]))|simp (disch:=omega) only[A8]|((with_reducible refine B5 ?_);refine⟨(_,_,_),rfl,?_,?_⟩)|((with_reducible refine BF ?_);refine⟨_,rfl,?_,?_⟩)
         all_goals first|omega|skip
        ·(try (simp -implicitDefEqProofs only[go_sem,AI,AG,A',BH,Aa,Ab,ho,hlt',hlo,hlo',wi,Int.toNat_natCast]));repeat' first|(with_reducible first|exact tI|refine aI ?_ ?_|intro _)|((first|with_reducible refine Af ?_ ?_<;>intro _|(with_reducible refine isCall ?_);first|(refine Ad ([((900000,0),(42,0)),((801000,0),(10042,0))]) ([((900000,0),(42,0)),((801000,2),(10042,1))]) (ct) (by repeat' first|exact True.intro|exact rfl|refine And.intro ?_ ?_) (by simp[AW,Ah.get,AE.ren,AV.ren,AV.ren.renL,AB.get,AX,Ag,AY,AB.reach,AV.sites,AV.sites.sitesL,AB.osites]) (by simp[AL,Aq,AK,Ah.get,AY,A2,A9,AZ,AM]) (by rfl) (by simp only[Ai,Ah.get,AE.ren,AV.ren,AV.ren.renL,and_self,and_true,true_and,if_true,reduceIte];rfl) ?_))<;>try (simp -implicitDefEqProofs only[go_sem,AI,AG,A',BH,Aa,Ab,ho,hlt',hlo,hlo',wi,Int.toNat_natCast]))|simp (disch:=omega) only[A8]|((with_reducible refine B5 ?_);refine⟨(_,_,_),rfl,?_,?_⟩)|((with_reducible refine BF ?_);refine⟨_,rfl,?_,?_⟩)
         all_goals first|omega|skip
       ·have hlt':¬((a+i:Nat):Int)<(A:Int):=by omega
        have hiA:A-a=i:=by omega
        rw[hiA] at hst
        obtain⟨u,hu⟩:∃u,s.ordN c a i=u:=⟨_,rfl⟩
        rw[hu] at hfi hst
        have hfi':=S6 hfi (show a+i<=A by omega)
        have ul:u.eps.length<=900:=by have:=hfi'.le;omega
        have cC:=Vi u hfi.ok B hB (by omega)
        unfold Kb C1 at cC
        cases hcan:u.can B with
        |false =>
         have h1:=hbad (by rw[hst,hcan];simp)
         rw[hcan] at cC
         (try (simp -implicitDefEqProofs only[go_sem,hlt',hu]));repeat' first|(with_reducible first|exact tI|refine aI ?_ ?_|intro _)|((first|with_reducible refine Af ?_ ?_<;>intro _|(with_reducible refine isCall ?_);first|(refine Ad ([((900000,0),(42,0)),((901000,0),(10042,0))]) ([((900000,0),(42,0)),((901000,0),(10042,0))]) (cC) (by repeat' first|exact True.intro|exact rfl|refine And.intro ?_ ?_) (by simp[AW,Ah.get,AE.ren,AV.ren,AV.ren.renL,AB.get,AX,Ag,AY,AB.reach,AV.sites,AV.sites.sitesL,AB.osites]) (by simp[AL,Aq,AK,Ah.get,AY,A2,A9,AZ,AM]) (by rfl) (by simp only[Ai,Ah.get,AE.ren,AV.ren,AV.ren.renL,and_self,and_true,true_and,if_true,reduceIte];rfl) ?_))<;>try (simp -implicitDefEqProofs only[go_sem,hlt',hu]))|simp (disch:=omega) only[A8]|((with_reducible refine B5 ?_);refine⟨(_,_,_),rfl,?_,?_⟩)|((with_reducible refine BF ?_);refine⟨_,rfl,?_,?_⟩)
         all_goals first|omega|(rw[h1];rfl)|skip
        |true =>
         simp only[hcan,if_true,Bool.and_self,Bool.true_and,decide_true] at hst
         rw[hcan] at cC
         have hfd:=QX (b:=B) hfi'
         obtain⟨g,hg,ct⟩:=QE u hfi.ok (by omega) B hB hcan
         obtain⟨v,hv⟩:∃v,u.drain B=v:=⟨_,rfl⟩
         rw[hv] at ct hst hfd
         unfold LX C1 at ct
         have haA:A=a+i:=by omega
         rcases hg with rfl|rfl
         ·(try (simp -implicitDefEqProofs only[go_sem,hlt',hu,wk]));repeat' first|(with_reducible first|exact tI|refine aI ?_ ?_|intro _)|((first|with_reducible refine Af ?_ ?_<;>intro _|(with_reducible refine isCall ?_);first|(refine Ad ([((900000,0),(42,0)),((901000,0),(10042,0))]) ([((900000,0),(42,0)),((901000,0),(10042,0))]) (cC) (by repeat' first|exact True.intro|exact rfl|refine And.intro ?_ ?_) (by simp[AW,Ah.get,AE.ren,AV.ren,AV.ren.renL,AB.get,AX,Ag,AY,AB.reach,AV.sites,AV.sites.sitesL,AB.osites]) (by simp[AL,Aq,AK,Ah.get,AY,A2,A9,AZ,AM]) (by rfl) (by simp only[Ai,Ah.get,AE.ren,AV.ren,AV.ren.renL,and_self,and_true,true_and,if_true,reduceIte];rfl) ?_)|(refine Ad ([((900000,0),(42,0)),((801000,0),(10042,0))]) ([((900000,0),(42,0)),((801000,1),(10042,1))]) (ct) (by repeat' first|exact True.intro|exact rfl|refine And.intro ?_ ?_) (by simp[AW,Ah.get,AE.ren,AV.ren,AV.ren.renL,AB.get,AX,Ag,AY,AB.reach,AV.sites,AV.sites.sitesL,AB.osites]) (by simp[AL,Aq,AK,Ah.get,AY,A2,A9,AZ,AM]) (by rfl) (by simp only[Ai,Ah.get,AE.ren,AV.ren,AV.ren.renL,and_self,and_true,true_and,if_true,reduceIte];rfl) ?_))<;>try (simp -implicitDefEqProofs only[go_sem,hlt',hu,wk]))|simp (disch:=omega) only[A8]|((with_reducible refine B5 ?_);refine⟨(_,_,_),rfl,?_,?_⟩)|((with_reducible refine BF ?_);refine⟨_,rfl,?_,?_⟩)
          all_goals first|omega|exact haA ▸ hfd|exact haA ▸ hst.symm|skip
         ·(try (simp -implicitDefEqProofs only[go_sem,hlt',hu,wk]));repeat' first|(with_reducible first|exact tI|refine aI ?_ ?_|intro _)|((first|with_reducible refine Af ?_ ?_<;>intro _|(with_reducible refine isCall ?_);first|(refine Ad ([((900000,0),(42,0)),((901000,0),(10042,0))]) ([((900000,0),(42,0)),((901000,0),(10042,0))]) (cC) (by repeat' first|exact True.intro|exact rfl|refine And.intro ?_ ?_) (by simp[AW,Ah.get,AE.ren,AV.ren,AV.ren.renL,AB.get,AX,Ag,AY,AB.reach,AV.sites,AV.sites.sitesL,AB.osites]) (by simp[AL,Aq,AK,Ah.get,AY,A2,A9,AZ,AM]) (by rfl) (by simp only[Ai,Ah.get,AE.ren,AV.ren,AV.ren.renL,and_self,and_true,true_and,if_true,reduceIte];rfl) ?_)|(refine Ad ([((900000,0),(42,0)),((801000,0),(10042,0))]) ([((900000,0),(42,0)),((801000,2),(10042,1))]) (ct) (by repeat' first|exact True.intro|exact rfl|refine And.intro ?_ ?_) (by simp[AW,Ah.get,AE.ren,AV.ren,AV.ren.renL,AB.get,AX,Ag,AY,AB.reach,AV.sites,AV.sites.sitesL,AB.osites]) (by simp[AL,Aq,AK,Ah.get,AY,A2,A9,AZ,AM]) (by rfl) (by simp only[Ai,Ah.get,AE.ren,AV.ren,AV.ren.renL,and_self,and_true,true_and,if_true,reduceIte];rfl) ?_))<;>try (simp -implicitDefEqProofs only[go_sem,hlt',hu,wk]))|simp (disch:=omega) only[A8]|((with_reducible refine B5 ?_);refine⟨(_,_,_),rfl,?_,?_⟩)|((with_reducible refine BF ?_);refine⟨_,rfl,?_,?_⟩)
          all_goals first|omega|exact haA ▸ hfd|exact haA ▸ hst.symm|skip
   ·have hke:k=ds.length:=by omega
    subst hke
    have hk':¬(ds.length:Int)<(ds.length:Int):=by omega
    rw[List.drop_length,El] at hp
    have hM:RF c ds false=some (s.ordN c a (c.ords.length-a)).med:=by unfold RF;rw[←hp];rfl
    have hP0:Ek c ds false=0:=by rw[hE2,hM];rfl
    have hL:Fj c ds false=(s.ordN c a (c.ords.length-a)).med.take c.blocks.toNat:=by unfold Fj;rw[if_pos hP0,hM,Option.getD_some]
    rw[if_pos hP0,hP0,hL]
    (try (simp -implicitDefEqProofs only[go_sem,Am,AI,AG,Aj,hk']));repeat' first|(with_reducible first|exact tI|refine aI ?_ ?_|intro _)|((first|with_reducible refine Af ?_ ?_<;>intro _)<;>try (simp -implicitDefEqProofs only[go_sem,Am,AI,AG,Aj,hk']))|simp (disch:=omega) only[A8]|((with_reducible refine B5 ?_);refine⟨(_,_,_),rfl,?_,?_⟩)|((with_reducible refine BF ?_);refine⟨_,rfl,?_,?_⟩)
    all_goals first|omega|(simp<;>omega)|skip
    refine BB (α:=Nat) (l0:=?l3) (m0:=?m3) (fun x=>[(10,.d (.int .i64 ((a+x:Nat):Int)))]) (fun x=>[(42,.cells [.d (.int .i64 ((s.ordN c a x).m 0)),.d (.int .i64 ((s.ordN c a x).m 1)),.d (.int .i64 ((s.ordN c a x).m 2)),.d (.int .i64 ((s.ordN c a x).m 3)),.d (.int .i64 ((s.ordN c a x).m 4)),.d (.int .i64 ((s.ordN c a x).m 5)),.own 10042 0,.d (.int .i64 (s.ordN c a x).wr)]),(10042,.row 125 6 false (C2 (s.ordN c a x).eps))]) (fun x=>a+x<=c.ords.length) (fun x=>c.ords.length-(a+x)) 0 ?h03 ?he3 ?he23 ?hI3 ?step3
    case h03=>(simp -implicitDefEqProofs only[go_sem,Ap.ordN];rfl)
    case he3=>rfl
    case he23=>rfl
    case' step3=>(rintro i hI3;try dsimp only at hI3)
    case' hI3=>try dsimp only
    ·omega
    ·have hfi:=Jw (c:=c) hf i
     by_cases hlt:a+i<c.ords.length
     ·have hlt':((a+i:Nat):Int)<(c.ords.length:Int):=by omega
      have wi:IntKind.i64.wrap (((a+i:Nat):Int)+1)=((a+(i+1):Nat):Int):=by rw[BM _ (by omega)];omega
      have hnext:(s.ordN c a i).order ((a+i:Nat):Int) (c.ords[a+i]?.getD default)=s.ordN c a (i+1):=rfl
      have hof:=Nw (Fe hc hlt) cb.2.1
      obtain⟨o,ho⟩:∃o,c.ords[a+i]?.getD default=o:=⟨_,rfl⟩
      rw[ho] at hnext hof
      obtain⟨g,hg,ct⟩:=KN (s.ordN c a i) hfi.ok hfi.ne (by have:=hfi.le;omega) ((a+i:Nat):Int) o hof
      rw[hnext,Aa,Ab] at ct
      unfold LX C1 at ct
      rcases hg with rfl|rfl
      ·(try (simp -implicitDefEqProofs only[go_sem,AI,AG,A',BH,Aa,Ab,ho,hlt',hlt,wi,Int.toNat_natCast]));repeat' first|(with_reducible first|exact tI|refine aI ?_ ?_|intro _)|((first|with_reducible refine Af ?_ ?_<;>intro _|(with_reducible refine isCall ?_);first|(refine Ad ([((900000,0),(42,0)),((801000,0),(10042,0))]) ([((900000,0),(42,0)),((801000,1),(10042,1))]) (ct) (by repeat' first|exact True.intro|exact rfl|refine And.intro ?_ ?_) (by simp[AW,Ah.get,AE.ren,AV.ren,AV.ren.renL,AB.get,AX,Ag,AY,AB.reach,AV.sites,AV.sites.sitesL,AB.osites]) (by simp[AL,Aq,AK,Ah.get,AY,A2,A9,AZ,AM]) (by rfl) (by simp only[Ai,Ah.get,AE.ren,AV.ren,AV.ren.renL,and_self,and_true,true_and,if_true,reduceIte];rfl) ?_))<;>try (simp -implicitDefEqProofs only[go_sem,AI,AG,A',BH,Aa,Ab,ho,hlt',hlt,wi,Int.toNat_natCast]))|simp (disch:=omega) only[A8]|((with_reducible refine B5 ?_);refine⟨(_,_,_),rfl,?_,?_⟩)|((with_reducible refine BF ?_);refine⟨_,rfl,?_,?_⟩)
       all_goals first|omega|skip
      ·(try (simp -implicitDefEqProofs only[go_sem,AI,AG,A',BH,Aa,Ab,ho,hlt',hlt,wi,Int.toNat_natCast]));repeat' first|(with_reducible first|exact tI|refine aI ?_ ?_|intro _)|((first|with_reducible refine Af ?_ ?_<;>intro _|(with_reducible refine isCall ?_);first|(refine Ad ([((900000,0),(42,0)),((801000,0),(10042,0))]) ([((900000,0),(42,0)),((801000,2),(10042,1))]) (ct) (by repeat' first|exact True.intro|exact rfl|refine And.intro ?_ ?_) (by simp[AW,Ah.get,AE.ren,AV.ren,AV.ren.renL,AB.get,AX,Ag,AY,AB.reach,AV.sites,AV.sites.sitesL,AB.osites]) (by simp[AL,Aq,AK,Ah.get,AY,A2,A9,AZ,AM]) (by rfl) (by simp only[Ai,Ah.get,AE.ren,AV.ren,AV.ren.renL,and_self,and_true,true_and,if_true,reduceIte];rfl) ?_))<;>try (simp -implicitDefEqProofs only[go_sem,AI,AG,A',BH,Aa,Ab,ho,hlt',hlt,wi,Int.toNat_natCast]))|simp (disch:=omega) only[A8]|((with_reducible refine B5 ?_);refine⟨(_,_,_),rfl,?_,?_⟩)|((with_reducible refine BF ?_);refine⟨_,rfl,?_,?_⟩)
       all_goals first|omega|skip
     ·have hlt':¬((a+i:Nat):Int)<(c.ords.length:Int):=by omega
      have hia:c.ords.length-a=i:=by omega
      rw[hia]
      obtain⟨u,hu⟩:∃u,s.ordN c a i=u:=⟨_,rfl⟩
      rw[hu] at hfi ⊢
      have hm:=f3 hfi.ok.ml
      rcases (show c.blocks=1\/c.blocks=2\/c.blocks=3 by omega) with hb|hb|hb
      ·have cR:=C_ [u.m 0] (by simp) (by simp)
       have ht:u.med.take c.blocks.toNat=[u.m 0]:=by rw[hm,hb];rfl
       rw[ht]
       (try (simp -implicitDefEqProofs only[go_sem,AI,AG,hlt',hu,hb]));repeat' first|(with_reducible first|exact tI|refine aI ?_ ?_|intro _)|((first|with_reducible refine Af ?_ ?_<;>intro _|(with_reducible refine isCall ?_);first|refine G1 (cR) (by simp[A2]) (by first|exact EQ _|exact Eb (fun _=>rfl) _|simp[Gn,D.cells,D.prim]) ?_)<;>try (simp -implicitDefEqProofs only[go_sem,AI,AG,hlt',hu,hb]))|simp (disch:=omega) only[A8]|((with_reducible refine B5 ?_);refine⟨(_,_,_),rfl,?_,?_⟩)|((with_reducible refine BF ?_);refine⟨_,rfl,?_,?_⟩)
      ·have cR:=C_ [u.m 0,u.m 1] (by simp) (by simp)
       have ht:u.med.take c.blocks.toNat=[u.m 0,u.m 1]:=by rw[hm,hb];rfl
       rw[ht]
       (try (simp -implicitDefEqProofs only[go_sem,AI,AG,hlt',hu,hb]));repeat' first|(with_reducible first|exact tI|refine aI ?_ ?_|intro _)|((first|with_reducible refine Af ?_ ?_<;>intro _|(with_reducible refine isCall ?_);first|refine G1 (cR) (by simp[A2]) (by first|exact EQ _|exact Eb (fun _=>rfl) _|simp[Gn,D.cells,D.prim]) ?_)<;>try (simp -implicitDefEqProofs only[go_sem,AI,AG,hlt',hu,hb]))|simp (disch:=omega) only[A8]|((with_reducible refine B5 ?_);refine⟨(_,_,_),rfl,?_,?_⟩)|((with_reducible refine BF ?_);refine⟨_,rfl,?_,?_⟩)
      ·have cR:=C_ [u.m 0,u.m 1,u.m 2] (by simp) (by simp)
       have ht:u.med.take c.blocks.toNat=[u.m 0,u.m 1,u.m 2]:=by rw[hm,hb];rfl
       rw[ht]
       (try (simp -implicitDefEqProofs only[go_sem,AI,AG,hlt',hu,hb]));repeat' first|(with_reducible first|exact tI|refine aI ?_ ?_|intro _)|((first|with_reducible refine Af ?_ ?_<;>intro _|(with_reducible refine isCall ?_);first|refine G1 (cR) (by simp[A2]) (by first|exact EQ _|exact Eb (fun _=>rfl) _|simp[Gn,D.cells,D.prim]) ?_)<;>try (simp -implicitDefEqProofs only[go_sem,AI,AG,hlt',hu,hb]))|simp (disch:=omega) only[A8]|((with_reducible refine B5 ?_);refine⟨(_,_,_),rfl,?_,?_⟩)|((with_reducible refine BF ?_);refine⟨_,rfl,?_,?_⟩)
 |true =>
  by_cases h0:ds.length=0
  ·have h1:Ek c ds true=1:=by rw[hE];unfold Pr;rw[decide_eq_true h0];simp
   rw[h1]
   have h0':((ds.length:Nat):Int)=0:=by omega
   (try (simp -implicitDefEqProofs only[go_sem,Am,AI,AG,Aj,h16',eq_true h0']));repeat' first|(with_reducible first|exact tI|refine aI ?_ ?_|intro _)|((first|with_reducible refine Af ?_ ?_<;>intro _|(with_reducible refine isCall ?_);first|refine Ae c1 ?_)<;>try (simp -implicitDefEqProofs only[go_sem,Am,AI,AG,Aj,h16',eq_true h0']))|simp (disch:=omega) only[A8]|((with_reducible refine B5 ?_);refine⟨(_,_,_),rfl,?_,?_⟩)|((with_reducible refine BF ?_);refine⟨_,rfl,?_,?_⟩)
   all_goals first|rfl|omega|(rw[if_neg (by decide)];done)|skip
  have h0':¬((ds.length:Nat):Int)=0:=by omega
  have hpos:0<ds.length:=by omega
  have wl':=wl hpos
  have hl1:ds.length-1<ds.length:=by omega
  obtain⟨z,hz⟩:∃z,ds[ds.length-1]?.getD default=z:=⟨_,rfl⟩
  by_cases hla:z.aft=c.ords.length
  ·have hE2:Ek c ds true=if (RF c ds true).isNone then 1 else 0:=by rw[hE];unfold Pr;rw[decide_eq_false h0,hz,hla];simp
   obtain⟨P,hP⟩:∃P,Ek c ds true=P:=⟨_,rfl⟩
   (try (simp -implicitDefEqProofs only[go_sem,Am,AI,AG,Aj,Ax,A1,Bg,h16',C1,h0',eq_false h0',wl',hz,hla,hl1,hpos,Int.toNat_natCast]));repeat' first|(with_reducible first|exact tI|refine aI ?_ ?_|intro _)|((first|with_reducible refine Af ?_ ?_<;>intro _|(with_reducible refine isCall ?_);first|refine Ae c1 ?_|(refine Ad ([]) ([((5,1),(42,0)),((3,1),(10042,0))]) (QF) (by repeat' first|exact True.intro|exact rfl|refine And.intro ?_ ?_) (by simp[AW,Ah.get,AE.ren,AV.ren,AV.ren.renL,AB.get,AX,Ag,AY,AB.reach,AV.sites,AV.sites.sitesL,AB.osites]) (by simp[AL,Aq,AK,Ah.get,AY,A2,A9,AZ,AM]) (by rfl) (by simp only[Ai,Ah.get,AE.ren,AV.ren,AV.ren.renL,and_self,and_true,true_and,if_true,reduceIte];rfl) ?_))<;>try (simp -implicitDefEqProofs only[go_sem,Am,AI,AG,Aj,Ax,A1,Bg,h16',C1,h0',eq_false h0',wl',hz,hla,hl1,hpos,Int.toNat_natCast]))|simp (disch:=omega) only[A8]|((with_reducible refine B5 ?_);refine⟨(_,_,_),rfl,?_,?_⟩)|((with_reducible refine BF ?_);refine⟨_,rfl,?_,?_⟩)
   all_goals first|omega|(simp<;>omega)|skip
   refine BB (α:=Nat×Nat×Ap) (l0:=?l4) (m0:=?m4) (fun x=>[(45,.d (.int .i64 (x.1:Int))),(10,.d (.int .i64 (x.2.1:Int)))]) (fun x=>[(42,.cells [.d (.int .i64 (x.2.2.m 0)),.d (.int .i64 (x.2.2.m 1)),.d (.int .i64 (x.2.2.m 2)),.d (.int .i64 (x.2.2.m 3)),.d (.int .i64 (x.2.2.m 4)),.d (.int .i64 (x.2.2.m 5)),.own 10042 0,.d (.int .i64 x.2.2.wr)]),(10042,.row 125 6 false (C2 x.2.2.eps))]) (fun x=>(x.1<=ds.length/\x.2.1<=c.ords.length)/\x.2.2.Fit x.2.1/\El c (ds.drop x.1) x.2.2 x.2.1=El c ds Ap.begin 0) (fun x=>ds.length-x.1) (0,0,Ap.begin) ?h04 ?he4 ?he24 ?hI4 ?step4
   case h04=>(simp -implicitDefEqProofs only[go_sem,C1];rfl)
   case he4=>rfl
   case he24=>rfl
   case' step4=>(rintro⟨k,a,s⟩ hI4;try dsimp only at hI4)
   case' hI4=>try dsimp only
   ·exact⟨⟨Nat.zero_le _,Nat.zero_le _⟩,QY,rfl⟩
   ·obtain⟨⟨k1,a1⟩,hf,hp⟩:=hI4
    by_cases hk:k<ds.length
    ·have hk':(k:Int)<(ds.length:Int):=by omega
     have hst:=OY (c:=c) (s:=s) (a:=a) hk
     rw[hp] at hst
     obtain⟨d,hd⟩:∃d,ds[k]?.getD default=d:=⟨_,rfl⟩
     rw[hd] at hst
     have cA:=Dh d.aft a c.ords.length
     have cB:=Dh d.blk 0 (c.blocks-1)
     have wk:IntKind.i64.wrap ((k:Int)+1)=((k+1:Nat):Int):=by rw[BM _ (by omega)];omega
     obtain⟨qa,hqa⟩:∃q,HS d.aft a c.ords.length=q:=⟨_,rfl⟩
     obtain⟨qb,hqb⟩:∃q,HS d.blk 0 (c.blocks-1)=q:=⟨_,rfl⟩
     rw[hqa] at cA
     rw[hqb] at cB hst
     rw[show (decide ((a:Int)<=d.aft) && decide (d.aft<=c.ords.length))=qa from hqa] at hst
     have hbad:El c ds Ap.begin 0=none->Ek c ds true=1:=fun h=>by rw[hE2];unfold RF;rw[h];rfl
     cases qa with
     |false =>
      have h1:=hbad (by rw[hst];simp)
      (try (simp -implicitDefEqProofs only[go_sem,Am,AI,AG,Aj,Ax,A1,Bg,hd,hk',Int.toNat_natCast]));repeat' first|(with_reducible first|exact tI|refine aI ?_ ?_|intro _)|((first|with_reducible refine Af ?_ ?_<;>intro _|(with_reducible refine isCall ?_);first|refine Ae cA ?_)<;>try (simp -implicitDefEqProofs only[go_sem,Am,AI,AG,Aj,Ax,A1,Bg,hd,hk',Int.toNat_natCast]))|simp (disch:=omega) only[A8]|((with_reducible refine B5 ?_);refine⟨(_,_,_),rfl,?_,?_⟩)|((with_reducible refine BF ?_);refine⟨_,rfl,?_,?_⟩)
      all_goals first|omega|(rw[h1];rfl)|skip
     |true =>
      cases qb with
      |false =>
       have h1:=hbad (by rw[hst];simp)
       (try (simp -implicitDefEqProofs only[go_sem,Am,AI,AG,Aj,Ax,A1,Bg,hd,hk',Int.toNat_natCast,wb]));repeat' first|(with_reducible first|exact tI|refine aI ?_ ?_|intro _)|((first|with_reducible refine Af ?_ ?_<;>intro _|(with_reducible refine isCall ?_);first|refine Ae cA ?_|refine Ae cB ?_)<;>try (simp -implicitDefEqProofs only[go_sem,Am,AI,AG,Aj,Ax,A1,Bg,hd,hk',Int.toNat_natCast,wb]))|simp (disch:=omega) only[A8]|((with_reducible refine B5 ?_);refine⟨(_,_,_),rfl,?_,?_⟩)|((with_reducible refine BF ?_);refine⟨_,rfl,?_,?_⟩)
       all_goals first|omega|(rw[h1];rfl)|skip
      |true =>
       simp only[Bool.and_self,Bool.true_and,decide_true,if_true] at hst
       simp only[HS,Bool.and_eq_true,decide_eq_true_eq] at hqa hqb
       obtain⟨da,db⟩:=d
       simp only at hqa hqb hst cA cB
       obtain⟨A,rfl⟩:∃A:Nat,da=(A:Int):=⟨da.toNat,by omega⟩
       obtain⟨B,rfl⟩:∃B:Nat,db=(B:Int):=⟨db.toNat,by omega⟩
       simp only[Int.toNat_natCast] at hst
       have hA:A<=c.ords.length:=by omega
       have hB:B<6:=by omega
       (try (simp -implicitDefEqProofs only[go_sem,Am,AI,AG,Aj,Ax,A1,Bg,hd,hk',Int.toNat_natCast,wb]));repeat' first|(with_reducible first|exact tI|refine aI ?_ ?_|intro _)|((first|with_reducible refine Af ?_ ?_<;>intro _|(with_reducible refine isCall ?_);first|refine Ae cA ?_|refine Ae cB ?_)<;>try (simp -implicitDefEqProofs only[go_sem,Am,AI,AG,Aj,Ax,A1,Bg,hd,hk',Int.toNat_natCast,wb]))|simp (disch:=omega) only[A8]|((with_reducible refine B5 ?_);refine⟨(_,_,_),rfl,?_,?_⟩)|((with_reducible refine BF ?_);refine⟨_,rfl,?_,?_⟩)
       all_goals first|omega|(simp<;>omega)|skip
       refine BB (α:=Nat) (l0:=?l5) (m0:=?m5) (fun x=>[(10,.d (.int .i64 ((a+x:Nat):Int)))]) (fun x=>[(42,.cells [.d (.int .i64 ((s.ordN c a x).m 0)),.d (.int .i64 ((s.ordN c a x).m 1)),.d (.int .i64 ((s.ordN c a x).m 2)),.d (.int .i64 ((s.ordN c a x).m 3)),.d (.int .i64 ((s.ordN c a x).m 4)),.d (.int .i64 ((s.ordN c a x).m 5)),.own 10042 0,.d (.int .i64 (s.ordN c a x).wr)]),(10042,.row 125 6 false (C2 (s.ordN c a x).eps))]) (fun x=>a+x<=A) (fun x=>A-(a+x)) 0 ?h05 ?he5 ?he25 ?hI5 ?step5
       case h05=>(simp -implicitDefEqProofs only[go_sem,Ap.ordN];rfl)
       case he5=>rfl
       case he25=>rfl
       case' step5=>(rintro i hI5;try dsimp only at hI5)
       case' hI5=>try dsimp only
       ·omega
       ·have hfi:=Jw (c:=c) hf i
        by_cases hlt:a+i<A
        ·have hlt':((a+i:Nat):Int)<(A:Int):=by omega
         have hlo:a+i<c.ords.length:=by omega
         have hlo':((a+i:Nat):Int)<(c.ords.length:Int):=by omega
         have wi:IntKind.i64.wrap (((a+i:Nat):Int)+1)=((a+(i+1):Nat):Int):=by rw[BM _ (by omega)];omega
         have hnext:(s.ordN c a i).order ((a+i:Nat):Int) (c.ords[a+i]?.getD default)=s.ordN c a (i+1):=rfl
         have hof:=Nw (Fe hc hlo) cb.2.1
         obtain⟨o,ho⟩:∃o,c.ords[a+i]?.getD default=o:=⟨_,rfl⟩
         rw[ho] at hnext hof
         obtain⟨g,hg,ct⟩:=KN (s.ordN c a i) hfi.ok hfi.ne (by have:=hfi.le;omega) ((a+i:Nat):Int) o hof
         rw[hnext,Aa,Ab] at ct
         unfold LX C1 at ct
         rcases hg with rfl|rfl
         ·(try (simp -implicitDefEqProofs only[go_sem,AI,AG,A',BH,Aa,Ab,ho,hlt',hlo,hlo',wi,Int.toNat_natCast]));repeat' first|(with_reducible first|exact tI|refine aI ?_ ?_|intro _)|((first|with_reducible refine Af ?_ ?_<;>intro _|(with_reducible refine isCall ?_);first|(refine Ad ([((900000,0),(42,0)),((801000,0),(10042,0))]) ([((900000,0),(42,0)),((801000,1),(10042,1))]) (ct) (by repeat' first|exact True.intro|exact rfl|refine And.intro ?_ ?_) (by simp[AW,Ah.get,AE.ren,AV.ren,AV.ren.renL,AB.get,AX,Ag,AY,AB.reach,AV.sites,AV.sites.sitesL,AB.osites]) (by simp[AL,Aq,AK,Ah.get,AY,A2,A9,AZ,AM]) (by rfl) (by simp only[Ai,Ah.get,AE.ren,AV.ren,AV.ren.renL,and_self,and_true,true_and,if_true,reduceIte];rfl) ?_))<;>try (simp -implicitDefEqProofs only[go_sem,AI,AG,A',BH,Aa,Ab,ho,hlt',hlo,hlo',wi,Int.toNat_natCast]))|simp (disch:=omega) only[A8]|((with_reducible refine B5 ?_);refine⟨(_,_,_),rfl,?_,?_⟩)|((with_reducible refine BF ?_);refine⟨_,rfl,?_,?_⟩)
          all_goals first|omega|skip
         ·(try (simp -implicitDefEqProofs only[go_sem,AI,AG,A',BH,Aa,Ab,ho,hlt',hlo,hlo',wi,Int.toNat_natCast]));repeat' first|(with_reducible first|exact tI|refine aI ?_ ?_|intro _)|((first|with_reducible refine Af ?_ ?_<;>intro _|(with_reducible refine isCall ?_);first|(refine Ad ([((900000,0),(42,0)),((801000,0),(10042,0))]) ([((900000,0),(42,0)),((801000,2),(10042,1))]) (ct) (by repeat' first|exact True.intro|exact rfl|refine And.intro ?_ ?_) (by simp[AW,Ah.get,AE.ren,AV.ren,AV.ren.renL,AB.get,AX,Ag,AY,AB.reach,AV.sites,AV.sites.sitesL,AB.osites]) (by simp[AL,Aq,AK,Ah.get,AY,A2,A9,AZ,AM]) (by rfl) (by simp only[Ai,Ah.get,AE.ren,AV.ren,AV.ren.renL,and_self,and_true,true_and,if_true,reduceIte];rfl) ?_))<;>try (simp -implicitDefEqProofs only[go_sem,AI,AG,A',BH,Aa,Ab,ho,hlt',hlo,hlo',wi,Int.toNat_natCast]))|simp (disch:=omega) only[A8]|((with_reducible refine B5 ?_);refine⟨(_,_,_),rfl,?_,?_⟩)|((with_reducible refine BF ?_);refine⟨_,rfl,?_,?_⟩)
          all_goals first|omega|skip
        ·have hlt':¬((a+i:Nat):Int)<(A:Int):=by omega
         have hiA:A-a=i:=by omega
         rw[hiA] at hst
         obtain⟨u,hu⟩:∃u,s.ordN c a i=u:=⟨_,rfl⟩
         rw[hu] at hfi hst
         have hfi':=S6 hfi (show a+i<=A by omega)
         have ul:u.eps.length<=900:=by have:=hfi'.le;omega
         have cC:=Vi u hfi.ok B hB (by omega)
         unfold Kb C1 at cC
         cases hcan:u.can B with
         |false =>
          have h1:=hbad (by rw[hst,hcan];simp)
          rw[hcan] at cC
          (try (simp -implicitDefEqProofs only[go_sem,hlt',hu]));repeat' first|(with_reducible first|exact tI|refine aI ?_ ?_|intro _)|((first|with_reducible refine Af ?_ ?_<;>intro _|(with_reducible refine isCall ?_);first|(refine Ad ([((900000,0),(42,0)),((901000,0),(10042,0))]) ([((900000,0),(42,0)),((901000,0),(10042,0))]) (cC) (by repeat' first|exact True.intro|exact rfl|refine And.intro ?_ ?_) (by simp[AW,Ah.get,AE.ren,AV.ren,AV.ren.renL,AB.get,AX,Ag,AY,AB.reach,AV.sites,AV.sites.sitesL,AB.osites]) (by simp[AL,Aq,AK,Ah.get,AY,A2,A9,AZ,AM]) (by rfl) (by simp only[Ai,Ah.get,AE.ren,AV.ren,AV.ren.renL,and_self,and_true,true_and,if_true,reduceIte];rfl) ?_))<;>try (simp -implicitDefEqProofs only[go_sem,hlt',hu]))|simp (disch:=omega) only[A8]|((with_reducible refine B5 ?_);refine⟨(_,_,_),rfl,?_,?_⟩)|((with_reducible refine BF ?_);refine⟨_,rfl,?_,?_⟩)
          all_goals first|omega|(rw[h1];rfl)|skip
         |true =>
          simp only[hcan,if_true,Bool.and_self,Bool.true_and,decide_true] at hst
          rw[hcan] at cC
          have hfd:=QX (b:=B) hfi'
          obtain⟨g,hg,ct⟩:=QE u hfi.ok (by omega) B hB hcan
          obtain⟨v,hv⟩:∃v,u.drain B=v:=⟨_,rfl⟩
          rw[hv] at ct hst hfd
          unfold LX C1 at ct
          have haA:A=a+i:=by omega
          rcases hg with rfl|rfl
          ·(try (simp -implicitDefEqProofs only[go_sem,hlt',hu,wk]));repeat' first|(with_reducible first|exact tI|refine aI ?_ ?_|intro _)|((first|with_reducible refine Af ?_ ?_<;>intro _|(with_reducible refine isCall ?_);first|(refine Ad ([((900000,0),(42,0)),((901000,0),(10042,0))]) ([((900000,0),(42,0)),((901000,0),(10042,0))]) (cC) (by repeat' first|exact True.intro|exact rfl|refine And.intro ?_ ?_) (by simp[AW,Ah.get,AE.ren,AV.ren,AV.ren.renL,AB.get,AX,Ag,AY,AB.reach,AV.sites,AV.sites.sitesL,AB.osites]) (by simp[AL,Aq,AK,Ah.get,AY,A2,A9,AZ,AM]) (by rfl) (by simp only[Ai,Ah.get,AE.ren,AV.ren,AV.ren.renL,and_self,and_true,true_and,if_true,reduceIte];rfl) ?_)|(refine Ad ([((900000,0),(42,0)),((801000,0),(10042,0))]) ([((900000,0),(42,0)),((801000,1),(10042,1))]) (ct) (by repeat' first|exact True.intro|exact rfl|refine And.intro ?_ ?_) (by simp[AW,Ah.get,AE.ren,AV.ren,AV.ren.renL,AB.get,AX,Ag,AY,AB.reach,AV.sites,AV.sites.sitesL,AB.osites]) (by simp[AL,Aq,AK,Ah.get,AY,A2,A9,AZ,AM]) (by rfl) (by simp only[Ai,Ah.get,AE.ren,AV.ren,AV.ren.renL,and_self,and_true,true_and,if_true,reduceIte];rfl) ?_))<;>try (simp -implicitDefEqProofs only[go_sem,hlt',hu,wk]))|simp (disch:=omega) only[A8]|((with_reducible refine B5 ?_);refine⟨(_,_,_),rfl,?_,?_⟩)|((with_reducible refine BF ?_);refine⟨_,rfl,?_,?_⟩)
           all_goals first|omega|exact haA ▸ hfd|exact haA ▸ hst.symm|skip
          ·(try (simp -implicitDefEqProofs only[go_sem,hlt',hu,wk]));repeat' first|(with_reducible first|exact tI|refine aI ?_ ?_|intro _)|((first|with_reducible refine Af ?_ ?_<;>intro _|(with_reducible refine isCall ?_);first|(refine Ad ([((900000,0),(42,0)),((901000,0),(10042,0))]) ([((900000,0),(42,0)),((901000,0),(10042,0))]) (cC) (by repeat' first|exact True.intro|exact rfl|refine And.intro ?_ ?_) (by simp[AW,Ah.get,AE.ren,AV.ren,AV.ren.renL,AB.get,AX,Ag,AY,AB.reach,AV.sites,AV.sites.sitesL,AB.osites]) (by simp[AL,Aq,AK,Ah.get,AY,A2,A9,AZ,AM]) (by rfl) (by simp only[Ai,Ah.get,AE.ren,AV.ren,AV.ren.renL,and_self,and_true,true_and,if_true,reduceIte];rfl) ?_)|(refine Ad ([((900000,0),(42,0)),((801000,0),(10042,0))]) ([((900000,0),(42,0)),((801000,2),(10042,1))]) (ct) (by repeat' first|exact True.intro|exact rfl|refine And.intro ?_ ?_) (by simp[AW,Ah.get,AE.ren,AV.ren,AV.ren.renL,AB.get,AX,Ag,AY,AB.reach,AV.sites,AV.sites.sitesL,AB.osites]) (by simp[AL,Aq,AK,Ah.get,AY,A2,A9,AZ,AM]) (by rfl) (by simp only[Ai,Ah.get,AE.ren,AV.ren,AV.ren.renL,and_self,and_true,true_and,if_true,reduceIte];rfl) ?_))<;>try (simp -implicitDefEqProofs only[go_sem,hlt',hu,wk]))|simp (disch:=omega) only[A8]|((with_reducible refine B5 ?_);refine⟨(_,_,_),rfl,?_,?_⟩)|((with_reducible refine BF ?_);refine⟨_,rfl,?_,?_⟩)
           all_goals first|omega|exact haA ▸ hfd|exact haA ▸ hst.symm|skip
    ·have hke:k=ds.length:=by omega
     subst hke
     have hk':¬(ds.length:Int)<(ds.length:Int):=by omega
     rw[List.drop_length,El] at hp
     have hM:RF c ds true=some ((s.ordN c a (c.ords.length-a)).med.set z.blk.toNat (-2)):=by unfold RF;rw[←hp,hz];rfl
     have hP0:Ek c ds true=0:=by rw[hE2,hM];rfl
     have hL:Fj c ds true=((s.ordN c a (c.ords.length-a)).med.set z.blk.toNat (-2)).take c.blocks.toNat:=by unfold Fj;rw[if_pos hP0,hM,Option.getD_some]
     have hzb:=(Ms hc ds Ap.begin 0 (Nat.zero_le _) (KT c) hp.symm).2.2 z (by rw[←hz,List.getElem?_eq_getElem hl1,Option.getD_some];exact List.getElem_mem hl1)
     rw[if_pos hP0,hP0,hL]
     (try (simp -implicitDefEqProofs only[go_sem,Am,AI,AG,Aj,hk']));repeat' first|(with_reducible first|exact tI|refine aI ?_ ?_|intro _)|((first|with_reducible refine Af ?_ ?_<;>intro _)<;>try (simp -implicitDefEqProofs only[go_sem,Am,AI,AG,Aj,hk']))|simp (disch:=omega) only[A8]|((with_reducible refine B5 ?_);refine⟨(_,_,_),rfl,?_,?_⟩)|((with_reducible refine BF ?_);refine⟨_,rfl,?_,?_⟩)
     all_goals first|omega|(simp<;>omega)|skip
     refine BB (α:=Nat) (l0:=?l6) (m0:=?m6) (fun x=>[(10,.d (.int .i64 ((a+x:Nat):Int)))]) (fun x=>[(42,.cells [.d (.int .i64 ((s.ordN c a x).m 0)),.d (.int .i64 ((s.ordN c a x).m 1)),.d (.int .i64 ((s.ordN c a x).m 2)),.d (.int .i64 ((s.ordN c a x).m 3)),.d (.int .i64 ((s.ordN c a x).m 4)),.d (.int .i64 ((s.ordN c a x).m 5)),.own 10042 0,.d (.int .i64 (s.ordN c a x).wr)]),(10042,.row 125 6 false (C2 (s.ordN c a x).eps))]) (fun x=>a+x<=c.ords.length) (fun x=>c.ords.length-(a+x)) 0 ?h06 ?he6 ?he26 ?hI6 ?step6
     case h06=>(simp -implicitDefEqProofs only[go_sem,Ap.ordN];rfl)
     case he6=>rfl
     case he26=>rfl
     case' step6=>(rintro i hI6;try dsimp only at hI6)
     case' hI6=>try dsimp only
     ·omega
     ·have hfi:=Jw (c:=c) hf i
      by_cases hlt:a+i<c.ords.length
      ·have hlt':((a+i:Nat):Int)<(c.ords.length:Int):=by omega
       have wi:IntKind.i64.wrap (((a+i:Nat):Int)+1)=((a+(i+1):Nat):Int):=by rw[BM _ (by omega)];omega
       have hnext:(s.ordN c a i).order ((a+i:Nat):Int) (c.ords[a+i]?.getD default)=s.ordN c a (i+1):=rfl
       have hof:=Nw (Fe hc hlt) cb.2.1
       obtain⟨o,ho⟩:∃o,c.ords[a+i]?.getD default=o:=⟨_,rfl⟩
       rw[ho] at hnext hof
       obtain⟨g,hg,ct⟩:=KN (s.ordN c a i) hfi.ok hfi.ne (by have:=hfi.le;omega) ((a+i:Nat):Int) o hof
       rw[hnext,Aa,Ab] at ct
       unfold LX C1 at ct
       rcases hg with rfl|rfl
       ·(try (simp -implicitDefEqProofs only[go_sem,AI,AG,A',BH,Aa,Ab,ho,hlt',hlt,wi,Int.toNat_natCast]));repeat' first|(with_reducible first|exact tI|refine aI ?_ ?_|intro _)|((first|with_reducible refine Af ?_ ?_<;>intro _|(with_reducible refine isCall ?_);first|(refine Ad ([((900000,0),(42,0)),((801000,0),(10042,0))]) ([((900000,0),(42,0)),((801000,1),(10042,1))]) (ct) (by repeat' first|exact True.intro|exact rfl|refine And.intro ?_ ?_) (by simp[AW,Ah.get,AE.ren,AV.ren,AV.ren.renL,AB.get,AX,Ag,AY,AB.reach,AV.sites,AV.sites.sitesL,AB.osites]) (by simp[AL,Aq,AK,Ah.get,AY,A2,A9,AZ,AM]) (by rfl) (by simp only[Ai,Ah.get,AE.ren,AV.ren,AV.ren.renL,and_self,and_true,true_and,if_true,reduceIte];rfl) ?_))<;>try (simp -implicitDefEqProofs only[go_sem,AI,AG,A',BH,Aa,Ab,ho,hlt',hlt,wi,Int.toNat_natCast]))|simp (disch:=omega) only[A8]|((with_reducible refine B5 ?_);refine⟨(_,_,_),rfl,?_,?_⟩)|((with_reducible refine BF ?_);refine⟨_,rfl,?_,?_⟩)
        all_goals first|omega|skip
       ·(try (simp -implicitDefEqProofs only[go_sem,AI,AG,A',BH,Aa,Ab,ho,hlt',hlt,wi,Int.toNat_natCast]));repeat' first|(with_reducible first|exact tI|refine aI ?_ ?_|intro _)|((first|with_reducible refine Af ?_ ?_<;>intro _|(with_reducible refine isCall ?_);first|(refine Ad ([((900000,0),(42,0)),((801000,0),(10042,0))]) ([((900000,0),(42,0)),((801000,2),(10042,1))]) (ct) (by repeat' first|exact True.intro|exact rfl|refine And.intro ?_ ?_) (by simp[AW,Ah.get,AE.ren,AV.ren,AV.ren.renL,AB.get,AX,Ag,AY,AB.reach,AV.sites,AV.sites.sitesL,AB.osites]) (by simp[AL,Aq,AK,Ah.get,AY,A2,A9,AZ,AM]) (by rfl) (by simp only[Ai,Ah.get,AE.ren,AV.ren,AV.ren.renL,and_self,and_true,true_and,if_true,reduceIte];rfl) ?_))<;>try (simp -implicitDefEqProofs only[go_sem,AI,AG,A',BH,Aa,Ab,ho,hlt',hlt,wi,Int.toNat_natCast]))|simp (disch:=omega) only[A8]|((with_reducible refine B5 ?_);refine⟨(_,_,_),rfl,?_,?_⟩)|((with_reducible refine BF ?_);refine⟨_,rfl,?_,?_⟩)
        all_goals first|omega|skip
      ·have hlt':¬((a+i:Nat):Int)<(c.ords.length:Int):=by omega
       have hia:c.ords.length-a=i:=by omega
       rw[hia]
       obtain⟨u,hu⟩:∃u,s.ordN c a i=u:=⟨_,rfl⟩
       rw[hu] at hfi ⊢
       have hm:=f3 hfi.ok.ml
       obtain⟨zb,hzb'⟩:∃zb,z.blk=zb:=⟨_,rfl⟩
       rw[hzb'] at hzb ⊢
       rcases (show c.blocks=1\/c.blocks=2\/c.blocks=3 by omega) with hb|hb|hb
       ·rcases (show zb=0 by omega) with hk
        ·have cR:=C_ [-2] (by simp) (by simp)
         have ht:(u.med.set zb.toNat (-2)).take c.blocks.toNat=[-2]:=by rw[hm,hb,hk];rfl
         rw[ht]
         (try (simp -implicitDefEqProofs only[go_sem,AI,AG,hlt',hu,hb,hk,hzb',Aj,Ax,A1,Bg,wl',hz,hl1,hpos,Int.toNat_natCast]));repeat' first|(with_reducible first|exact tI|refine aI ?_ ?_|intro _)|((first|with_reducible refine Af ?_ ?_<;>intro _|(with_reducible refine isCall ?_);first|refine G1 (cR) (by simp[A2]) (by first|exact EQ _|exact Eb (fun _=>rfl) _|simp[Gn,D.cells,D.prim]) ?_)<;>try (simp -implicitDefEqProofs only[go_sem,AI,AG,hlt',hu,hb,hk,hzb',Aj,Ax,A1,Bg,wl',hz,hl1,hpos,Int.toNat_natCast]))|simp (disch:=omega) only[A8]|((with_reducible refine B5 ?_);refine⟨(_,_,_),rfl,?_,?_⟩)|((with_reducible refine BF ?_);refine⟨_,rfl,?_,?_⟩)
         all_goals first|omega|skip
       ·rcases (show zb=0\/zb=1 by omega) with hk|hk
        ·have cR:=C_ [-2,u.m 1] (by simp) (by simp)
         have ht:(u.med.set zb.toNat (-2)).take c.blocks.toNat=[-2,u.m 1]:=by rw[hm,hb,hk];rfl
         rw[ht]
         (try (simp -implicitDefEqProofs only[go_sem,AI,AG,hlt',hu,hb,hk,hzb',Aj,Ax,A1,Bg,wl',hz,hl1,hpos,Int.toNat_natCast]));repeat' first|(with_reducible first|exact tI|refine aI ?_ ?_|intro _)|((first|with_reducible refine Af ?_ ?_<;>intro _|(with_reducible refine isCall ?_);first|refine G1 (cR) (by simp[A2]) (by first|exact EQ _|exact Eb (fun _=>rfl) _|simp[Gn,D.cells,D.prim]) ?_)<;>try (simp -implicitDefEqProofs only[go_sem,AI,AG,hlt',hu,hb,hk,hzb',Aj,Ax,A1,Bg,wl',hz,hl1,hpos,Int.toNat_natCast]))|simp (disch:=omega) only[A8]|((with_reducible refine B5 ?_);refine⟨(_,_,_),rfl,?_,?_⟩)|((with_reducible refine BF ?_);refine⟨_,rfl,?_,?_⟩)
         all_goals first|omega|skip
        ·have cR:=C_ [u.m 0,-2] (by simp) (by simp)
         have ht:(u.med.set zb.toNat (-2)).take c.blocks.toNat=[u.m 0,-2]:=by rw[hm,hb,hk];rfl
         rw[ht]
         (try (simp -implicitDefEqProofs only[go_sem,AI,AG,hlt',hu,hb,hk,hzb',Aj,Ax,A1,Bg,wl',hz,hl1,hpos,Int.toNat_natCast]));repeat' first|(with_reducible first|exact tI|refine aI ?_ ?_|intro _)|((first|with_reducible refine Af ?_ ?_<;>intro _|(with_reducible refine isCall ?_);first|refine G1 (cR) (by simp[A2]) (by first|exact EQ _|exact Eb (fun _=>rfl) _|simp[Gn,D.cells,D.prim]) ?_)<;>try (simp -implicitDefEqProofs only[go_sem,AI,AG,hlt',hu,hb,hk,hzb',Aj,Ax,A1,Bg,wl',hz,hl1,hpos,Int.toNat_natCast]))|simp (disch:=omega) only[A8]|((with_reducible refine B5 ?_);refine⟨(_,_,_),rfl,?_,?_⟩)|((with_reducible refine BF ?_);refine⟨_,rfl,?_,?_⟩)
         all_goals first|omega|skip
       ·rcases (show zb=0\/zb=1\/zb=2 by omega) with hk|hk|hk
        ·have cR:=C_ [-2,u.m 1,u.m 2] (by simp) (by simp)
         have ht:(u.med.set zb.toNat (-2)).take c.blocks.toNat=[-2,u.m 1,u.m 2]:=by rw[hm,hb,hk];rfl
         rw[ht]
         (try (simp -implicitDefEqProofs only[go_sem,AI,AG,hlt',hu,hb,hk,hzb',Aj,Ax,A1,Bg,wl',hz,hl1,hpos,Int.toNat_natCast]));repeat' first|(with_reducible first|exact tI|refine aI ?_ ?_|intro _)|((first|with_reducible refine Af ?_ ?_<;>intro _|(with_reducible refine isCall ?_);first|refine G1 (cR) (by simp[A2]) (by first|exact EQ _|exact Eb (fun _=>rfl) _|simp[Gn,D.cells,D.prim]) ?_)<;>try (simp -implicitDefEqProofs only[go_sem,AI,AG,hlt',hu,hb,hk,hzb',Aj,Ax,A1,Bg,wl',hz,hl1,hpos,Int.toNat_natCast]))|simp (disch:=omega) only[A8]|((with_reducible refine B5 ?_);refine⟨(_,_,_),rfl,?_,?_⟩)|((with_reducible refine BF ?_);refine⟨_,rfl,?_,?_⟩)
         all_goals first|omega|skip
        ·have cR:=C_ [u.m 0,-2,u.m 2] (by simp) (by simp)
         have ht:(u.med.set zb.toNat (-2)).take c.blocks.toNat=[u.m 0,-2,u.m 2]:=by rw[hm,hb,hk];rfl
         rw[ht]
         (try (simp -implicitDefEqProofs only[go_sem,AI,AG,hlt',hu,hb,hk,hzb',Aj,Ax,A1,Bg,wl',hz,hl1,hpos,Int.toNat_natCast]));repeat' first|(with_reducible first|exact tI|refine aI ?_ ?_|intro _)|((first|with_reducible refine Af ?_ ?_<;>intro _|(with_reducible refine isCall ?_);first|refine G1 (cR) (by simp[A2]) (by first|exact EQ _|exact Eb (fun _=>rfl) _|simp[Gn,D.cells,D.prim]) ?_)<;>try (simp -implicitDefEqProofs only[go_sem,AI,AG,hlt',hu,hb,hk,hzb',Aj,Ax,A1,Bg,wl',hz,hl1,hpos,Int.toNat_natCast]))|simp (disch:=omega) only[A8]|((with_reducible refine B5 ?_);refine⟨(_,_,_),rfl,?_,?_⟩)|((with_reducible refine BF ?_);refine⟨_,rfl,?_,?_⟩)
         all_goals first|omega|skip
        ·have cR:=C_ [u.m 0,u.m 1,-2] (by simp) (by simp)
         have ht:(u.med.set zb.toNat (-2)).take c.blocks.toNat=[u.m 0,u.m 1,-2]:=by rw[hm,hb,hk];rfl
         rw[ht]
         (try (simp -implicitDefEqProofs only[go_sem,AI,AG,hlt',hu,hb,hk,hzb',Aj,Ax,A1,Bg,wl',hz,hl1,hpos,Int.toNat_natCast]));repeat' first|(with_reducible first|exact tI|refine aI ?_ ?_|intro _)|((first|with_reducible refine Af ?_ ?_<;>intro _|(with_reducible refine isCall ?_);first|refine G1 (cR) (by simp[A2]) (by first|exact EQ _|exact Eb (fun _=>rfl) _|simp[Gn,D.cells,D.prim]) ?_)<;>try (simp -implicitDefEqProofs only[go_sem,AI,AG,hlt',hu,hb,hk,hzb',Aj,Ax,A1,Bg,wl',hz,hl1,hpos,Int.toNat_natCast]))|simp (disch:=omega) only[A8]|((with_reducible refine B5 ?_);refine⟨(_,_,_),rfl,?_,?_⟩)|((with_reducible refine BF ?_);refine⟨_,rfl,?_,?_⟩)
         all_goals first|omega|skip
  ·have h1:Ek c ds true=1:=by rw[hE];unfold Pr;rw[hz,decide_eq_true (p:=z.aft≠c.ords.length) hla];simp
   rw[h1]
   (try (simp -implicitDefEqProofs only[go_sem,Am,AI,AG,Aj,Ax,A1,Bg,h16',h0',eq_false h0',wl',hz,hla,hl1,hpos,Int.toNat_natCast]));repeat' first|(with_reducible first|exact tI|refine aI ?_ ?_|intro _)|((first|with_reducible refine Af ?_ ?_<;>intro _|(with_reducible refine isCall ?_);first|refine Ae c1 ?_)<;>try (simp -implicitDefEqProofs only[go_sem,Am,AI,AG,Aj,Ax,A1,Bg,h16',h0',eq_false h0',wl',hz,hla,hl1,hpos,Int.toNat_natCast]))|simp (disch:=omega) only[A8]|((with_reducible refine B5 ?_);refine⟨(_,_,_),rfl,?_,?_⟩)|((with_reducible refine BF ?_);refine⟨_,rfl,?_,?_⟩)
   all_goals first|rfl|omega|(rw[if_neg (by decide)];done)|skip
end Go.Pw

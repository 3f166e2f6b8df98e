/- A part of the proof. -/
import Derived.Test.YtpcpcjbbdgmohaaDoorLgI
set_option linter.all false
open Go Go.Pw Go.Proofs
namespace Go.Pw
set_option maxRecDepth 100000
set_option maxHeartbeats 6400000
theorem Rc {E:C2} {rs ety es nl l s}:aX E rs ety es nl l .ret s=GF E s rs (VG s.V ety es nl l):=rfl
theorem Mk {E:C2} {rs ety es nl l s}:aX E rs ety es nl l .normal s=GF E s rs (VG s.V ety es nl l):=rfl
theorem Rb {V:AB} {ety es nl l o g}:VG V ety es nl l [.own o g]=(V.get o g=some (.row ety es nl l)):=rfl
theorem EM {α:Type}{f:α->D}(h:∀x,((f x).cells.all D.prim)=true) (l:List α):GO (l.map f)=true:=by
 unfold GO;rw[List.all_eq_true];intro x hx;obtain⟨y,_,rfl⟩:=List.mem_map.1 hx;exact h y
theorem EA (l:List Int):GO (C6 l)=true:=EM (f:=D.int .i64) (fun _=>rfl) l
theorem cU {s:Bg}(h:s.med.length=6):s.med=[s.m 0,s.m 1,s.m 2,s.m 3,s.m 4,s.m 5]:=by
 obtain⟨a,b,c,d,e,f,hm⟩:=Qe h
 unfold Bg.m;rw[hm];rfl
theorem N3 {c:A0}{ds:List G5}{s:Bg}{a k:Nat}(hk:k<ds.length):Fx c (ds.drop k) s a=if (decide ((a:Int)<=(ds[k]?.getD default).aft) && decide ((ds[k]?.getD default).aft<=c.ords.length)) && Ky (ds[k]?.getD default).blk 0 (c.blocks-1)=true then
   (if (s.ordN c a ((ds[k]?.getD default).aft.toNat-a)).can (ds[k]?.getD default).blk.toNat=true then Fx c (ds.drop (k+1)) ((s.ordN c a ((ds[k]?.getD default).aft.toNat-a)).drain (ds[k]?.getD default).blk.toNat) (ds[k]?.getD default).aft.toNat else none)
  else none:=by
 rw[List.drop_eq_getElem_cons hk,Fx,List.getElem?_eq_getElem hk];rfl
structure Bg.Fit (s:Bg) (a:Nat):Prop where
 ok:s.Ok
 ne:1<=s.eps.length
 le:s.eps.length<=a+1
theorem P1:Bg.begin.Fit 0:=⟨⟨rfl,fun r hr=>by simp[Bg.begin] at hr;subst hr;rfl⟩,Nat.le_refl _,Nat.le_refl _⟩
theorem RC {s:Bg}(h:1<=s.eps.length):1<=s.tidy.eps.length/\s.tidy.eps.length<=s.eps.length:=by
 rw[Nm,List.length_append]
 have:=List.length_filter_le Uc (s.eps.take s.last)
 rw[List.length_take] at this
 unfold Bg.last at this ⊢
 simp only[List.length_cons,List.length_nil]
 omega
theorem Y1 {s:Bg}(h:s.Ok) (hne:1<=s.eps.length):s.tidy.Ok:=by
 refine⟨h.ml,fun r hr=>?_⟩
 rw[Nm,List.mem_append,List.mem_singleton] at hr
 rcases hr with hr|rfl
 ·exact h.el r (List.mem_of_mem_take (List.mem_filter.1 hr).1)
 ·exact h.el _ (Cz (by unfold Bg.last;omega))
theorem SD {s:Bg}{a:Nat}(h:s.Fit a):s.tidy.Fit a:=⟨Y1 h.ok h.ne,(RC h.ne).1,by have:=(RC h.ne).2;have:=h.le;omega⟩
theorem Vn {s:Bg}{a:Nat}(h:s.Fit a) (n:Int) (o:DI):(s.order n o).Fit (a+1):=by
 have hl:s.last<s.eps.length:=by have:=h.ne;unfold Bg.last;omega
 unfold Bg.order
 apply SD
 have h1:(s.setL o.blk.toNat n).Fit (a+1):=⟨Er h.ok h.ne _ _,by rw[Cb];exact h.ne,by rw[Cb];have:=h.le;omega⟩
 split
 ·exact h1
 ·split
  ·have hl1:(s.setL o.blk.toNat n).last<(s.setL o.blk.toNat n).eps.length:=by rw[Fo,Cb];exact hl
   exact⟨E6 (Gl h1.ok _ (by omega)) (by rw[Dc];exact hl1),by rw[CY,Dc];exact h1.ne,by rw[CY,Dc];exact h1.le⟩
  ·split
   ·refine⟨⟨h.ok.ml,fun r hr=>?_⟩,by simp,by have:=h.le;simp;omega⟩
    rcases List.mem_append.1 hr with hr|hr
    ·exact h.ok.el r hr
    ·rw[List.mem_singleton.1 hr];rfl
   ·split
    ·exact⟨Gl h.ok _ (Nat.le_refl _),by rw[Dc];exact h.ne,by rw[Dc];have:=h.le;omega⟩
    ·exact⟨h.ok,h.ne,by have:=h.le;omega⟩
theorem JV {c:A0}{s:Bg}{a:Nat}(h:s.Fit a):∀k,(s.ordN c a k).Fit (a+k)
 |0=>h
 |k+1=>Vn (JV h k) _ _
theorem P0 {s:Bg}{a b:Nat}(h:s.Fit a):(s.drain b).Fit a:=by
 unfold Bg.drain
 apply SD
 have he:s.first.getD 0<s.eps.length:=by
  cases hf:s.first with
  |none=>have:=h.ne;simp;omega
  |some e =>
   unfold Bg.first at hf
   rw[List.findIdx?_eq_some_iff_getElem] at hf
   exact hf.1
 exact⟨E6 h.ok he,by rw[CY];exact h.ne,by rw[CY];exact h.le⟩
theorem SE {s:Bg}{a b:Nat}(h:s.Fit a) (hab:a<=b):s.Fit b:=⟨h.ok,h.ne,by have:=h.le;omega⟩
theorem NQ {o:DI}{b:Int}(h:o.ok b=true) (hb:b<=6):o.fit:=by
 have h0:=h
 simp only[DI.ok,Bool.or_eq_true,Bool.and_eq_true,decide_eq_true_eq,Ky] at h
 rcases h with⟨hp,h1,h2⟩|⟨h3|h4,_⟩
 ·simp only[DI.puts,Bool.or_eq_true,decide_eq_true_eq] at hp
  exact .inl ⟨hp,by omega,by omega⟩
 ·exact .inr (.inl h3)
 ·exact .inr (.inr h4)
attribute [local congr] DP B9 B_ Bj DR Bn Bp Bo Bi BW BQ BF Bl BR BU Bm BV CC Cg BT CE CF CD CA CB B8 DQ B' Bk BS
attribute [local irreducible] IntKind.wrap CG Option.getD and or
theorem Cx (xs:List Int) (hl:xs.length<=1000) (hne:0<xs.length):Z0 E0 ED [.list false (C6 xs)] 3 1 false (C6 xs):=by
 refine TC E9 A' (by simp) fun hwf=>?_
 rw[Av];unfold Dy
 have hn:¬xs=[]:=by intro h;rw[h] at hne;simp at hne
 (try (simp -implicitDefEqProofs only[go_sem,hn,Rc,Mk,Rb]));repeat' first|(with_reducible first|exact tI|refine aI ?_ ?_|intro _)|((first|with_reducible refine Ad ?_ ?_<;>intro _)<;>try (simp -implicitDefEqProofs only[go_sem,hn,Rc,Mk,Rb]))|simp (disch:=omega) only[A7]
 all_goals first|omega|rfl
theorem Jb (c:A0) (hc:c.ok=true) (hb3:c.blocks<=3) (nd:Bool) (ds:List G5) (torn:Bool) :
  D6 E0 L5 [Fu c,.list nd (OL ds),.bool torn] (.tup [if EF c ds torn=0 then .list false (C6 (DW c ds torn)) else .list true [],.int .i64 (EF c ds torn)]):=by
 refine Ap OX A' (by simp) fun hwf=>?_
 simp only[Fm,FB,FA,El,GD,GC,IK,GB,Cy,DF,DG,FD,Di,List.length_map,Dn,true_and,and_true,Az] at hwf
 have cb:=Ca hc
 have c1:=Ig c
 rw[Rt hc] at c1
 rw[AP,AF] at c1
 have wb:IntKind.i64.wrap (c.blocks-1)=c.blocks-1:=BN _ (by omega)
 have hE:EF c ds torn=if decide (16<ds.length) || PP c ds torn then 1 else if (Rm c ds torn).isNone then 1 else 0:=by unfold EF;rw[hc];rfl
 rw[Av];unfold KI
 by_cases h16:16<ds.length
 ·have h16':(16:Int)<(ds.length:Int):=by omega
  rw[decide_eq_true h16,Bool.true_or,if_pos rfl] at hE
  rw[hE,if_neg (by decide)]
  (try (simp -implicitDefEqProofs only[go_sem,AP,AF,AG,Az,h16']));repeat' first|(with_reducible first|exact tI|refine aI ?_ ?_|intro _)|((first|with_reducible refine Ad ?_ ?_<;>intro _|(with_reducible refine isCall ?_);first|refine AH c1 ?_)<;>try (simp -implicitDefEqProofs only[go_sem,AP,AF,AG,Az,h16']))|simp (disch:=omega) only[A7]|((with_reducible refine Br ?_);refine⟨(_,_,_),rfl,?_,?_⟩)|((with_reducible refine BL ?_);refine⟨_,rfl,?_,?_⟩)
  all_goals first|rfl|omega|skip
 have h16':¬(16:Int)<(ds.length:Int):=by omega
 rw[decide_eq_false h16,Bool.false_or] at hE
 have wl:0<ds.length->IntKind.i64.wrap ((ds.length:Int)-1)=((ds.length-1:Nat):Int):=fun h=>by rw[BN _ (by omega)];omega
 cases torn with
 |false =>
  have hE2:EF c ds false=if (Rm c ds false).isNone then 1 else 0:=by rw[hE];unfold PP;simp
  obtain⟨P,hP⟩:∃P,EF c ds false=P:=⟨_,rfl⟩
  (try (simp -implicitDefEqProofs only[go_sem,AP,AF,AG,Az,h16',Cp]));repeat' first|(with_reducible first|exact tI|refine aI ?_ ?_|intro _)|((first|with_reducible refine Ad ?_ ?_<;>intro _|(with_reducible refine isCall ?_);first|refine AH c1 ?_|(refine Ak ([]) ([((5,1),(42,0)),((3,1),(10042,0))]) (Pk) (by repeat' first|exact True.intro|exact rfl|refine And.intro ?_ ?_) (by simp[Handed,Ar.get,AI.ren,AV.ren,AV.ren.renL,AB.get,Af,Al,Ai,AB.reach,AV.sites,AV.sites.sitesL,AB.osites]) (by simp[AO,A3,AQ,Ar.get,Ai,BH,BJ,Aj,AX]) (by rfl) (by simp only[Au,Ar.get,AI.ren,AV.ren,AV.ren.renL,and_self,and_true,true_and,if_true,reduceIte];rfl) ?_))<;>try (simp -implicitDefEqProofs only[go_sem,AP,AF,AG,Az,h16',Cp]))|simp (disch:=omega) only[A7]|((with_reducible refine Br ?_);refine⟨(_,_,_),rfl,?_,?_⟩)|((with_reducible refine BL ?_);refine⟨_,rfl,?_,?_⟩)
  refine BZ (α:=Nat×Nat×Bg) (l0:=?l1) (m0:=?m1) (fun x=>[(45,.d (.int .i64 (x.1:Int))),(10,.d (.int .i64 (x.2.1:Int)))]) (fun x=>[(42,.cells [.d (.int .i64 (x.2.2.m 0)),.d (.int .i64 (x.2.2.m 1)),.d (.int .i64 (x.2.2.m 2)),.d (.int .i64 (x.2.2.m 3)),.d (.int .i64 (x.2.2.m 4)),.d (.int .i64 (x.2.2.m 5)),.own 10042 0,.d (.int .i64 x.2.2.wr)]),(10042,.row 103 6 false (Cq x.2.2.eps))]) (fun x=>(x.1<=ds.length/\x.2.1<=c.ords.length)/\x.2.2.Fit x.2.1/\Fx c (ds.drop x.1) x.2.2 x.2.1=Fx c ds Bg.begin 0) (fun x=>ds.length-x.1) (0,0,Bg.begin) ?h01 ?he1 ?he21 ?hI1 ?step1
  case h01=>(simp -implicitDefEqProofs only[go_sem,Cp];rfl)
  case he1=>rfl
  case he21=>rfl
  case' step1=>(rintro⟨k,a,s⟩ hI;try dsimp only at hI)
  case' hI1=>try dsimp only
  ·exact⟨⟨Nat.zero_le _,Nat.zero_le _⟩,P1,rfl⟩
  ·obtain⟨⟨k1,a1⟩,hf,hp⟩:=hI
   by_cases hk:k<ds.length
   ·have hk':(k:Int)<(ds.length:Int):=by omega
    have hst:=N3 (c:=c) (s:=s) (a:=a) hk
    rw[hp] at hst
    obtain⟨d,hd⟩:∃d,ds[k]?.getD default=d:=⟨_,rfl⟩
    rw[hd] at hst
    have cA:=DV d.aft a c.ords.length
    have cB:=DV d.blk 0 (c.blocks-1)
    have wk:IntKind.i64.wrap ((k:Int)+1)=((k+1:Nat):Int):=by rw[BN _ (by omega)];omega
    obtain⟨qa,hqa⟩:∃q,Ky d.aft a c.ords.length=q:=⟨_,rfl⟩
    obtain⟨qb,hqb⟩:∃q,Ky d.blk 0 (c.blocks-1)=q:=⟨_,rfl⟩
    rw[hqa] at cA
    rw[hqb] at cB hst
    rw[show (decide ((a:Int)<=d.aft) && decide (d.aft<=c.ords.length))=qa from hqa] at hst
    have hbad:Fx c ds Bg.begin 0=none->EF c ds false=1:=fun h=>by rw[hE2];unfold Rm;rw[h];rfl
    cases qa with
    |false =>
     have h1:=hbad (by rw[hst];simp)
     (try (simp -implicitDefEqProofs only[go_sem,AP,AF,AG,Az,BG,BO,CT,hd,hk',Int.toNat_natCast]));repeat' first|(with_reducible first|exact tI|refine aI ?_ ?_|intro _)|((first|with_reducible refine Ad ?_ ?_<;>intro _|(with_reducible refine isCall ?_);first|refine AH cA ?_)<;>try (simp -implicitDefEqProofs only[go_sem,AP,AF,AG,Az,BG,BO,CT,hd,hk',Int.toNat_natCast]))|simp (disch:=omega) only[A7]|((with_reducible refine Br ?_);refine⟨(_,_,_),rfl,?_,?_⟩)|((with_reducible refine BL ?_);refine⟨_,rfl,?_,?_⟩)
     all_goals first|omega|(rw[h1];rfl)|skip
    |true =>
     cases qb with
     |false =>
      have h1:=hbad (by rw[hst];simp)
      (try (simp -implicitDefEqProofs only[go_sem,AP,AF,AG,Az,BG,BO,CT,hd,hk',Int.toNat_natCast,wb]));repeat' first|(with_reducible first|exact tI|refine aI ?_ ?_|intro _)|((first|with_reducible refine Ad ?_ ?_<;>intro _|(with_reducible refine isCall ?_);first|refine AH cA ?_|refine AH cB ?_)<;>try (simp -implicitDefEqProofs only[go_sem,AP,AF,AG,Az,BG,BO,CT,hd,hk',Int.toNat_natCast,wb]))|simp (disch:=omega) only[A7]|((with_reducible refine Br ?_);refine⟨(_,_,_),rfl,?_,?_⟩)|((with_reducible refine BL ?_);refine⟨_,rfl,?_,?_⟩)
      all_goals first|omega|(rw[h1];rfl)|skip
     |true =>
      simp only[Bool.and_self,Bool.true_and,decide_true,if_true] at hst
      simp only[Ky,Bool.and_eq_true,decide_eq_true_eq] at hqa hqb
      obtain⟨da,db⟩:=d
      simp only at hqa hqb hst cA cB
      obtain⟨A,rfl⟩:∃A:Nat,da=(A:Int):=⟨da.toNat,by omega⟩
      obtain⟨B,rfl⟩:∃B:Nat,db=(B:Int):=⟨db.toNat,by omega⟩
      simp only[Int.toNat_natCast] at hst
      have hA:A<=c.ords.length:=by omega
      have hB:B<6:=by omega
      (try (simp -implicitDefEqProofs only[go_sem,AP,AF,AG,Az,BG,BO,CT,hd,hk',Int.toNat_natCast,wb]));repeat' first|(with_reducible first|exact tI|refine aI ?_ ?_|intro _)|((first|with_reducible refine Ad ?_ ?_<;>intro _|(with_reducible refine isCall ?_);first|refine AH cA ?_|refine AH cB ?_)<;>try (simp -implicitDefEqProofs only[go_sem,AP,AF,AG,Az,BG,BO,CT,hd,hk',Int.toNat_natCast,wb]))|simp (disch:=omega) only[A7]|((with_reducible refine Br ?_);refine⟨(_,_,_),rfl,?_,?_⟩)|((with_reducible refine BL ?_);refine⟨_,rfl,?_,?_⟩)
      all_goals first|omega|(simp<;>omega)|skip
      refine BZ (α:=Nat) (l0:=?l2) (m0:=?m2) (fun x=>[(10,.d (.int .i64 ((a+x:Nat):Int)))]) (fun x=>[(42,.cells [.d (.int .i64 ((s.ordN c a x).m 0)),.d (.int .i64 ((s.ordN c a x).m 1)),.d (.int .i64 ((s.ordN c a x).m 2)),.d (.int .i64 ((s.ordN c a x).m 3)),.d (.int .i64 ((s.ordN c a x).m 4)),.d (.int .i64 ((s.ordN c a x).m 5)),.own 10042 0,.d (.int .i64 (s.ordN c a x).wr)]),(10042,.row 103 6 false (Cq (s.ordN c a x).eps))]) (fun x=>a+x<=A) (fun x=>A-(a+x)) 0 ?h02 ?he2 ?he22 ?hI2 ?step2
      case h02=>(simp -implicitDefEqProofs only[go_sem,Bg.ordN];rfl)
      case he2=>rfl
      case he22=>rfl
      case' step2=>(rintro i hI2;try dsimp only at hI2)
      case' hI2=>try dsimp only
      ·omega
      ·have hfi:=JV (c:=c) hf i
       by_cases hlt:a+i<A
       ·have hlt':((a+i:Nat):Int)<(A:Int):=by omega
        have hlo:a+i<c.ords.length:=by omega
        have hlo':((a+i:Nat):Int)<(c.ords.length:Int):=by omega
        have wi:IntKind.i64.wrap (((a+i:Nat):Int)+1)=((a+(i+1):Nat):Int):=by rw[BN _ (by omega)];omega
        have hnext:(s.ordN c a i).order ((a+i:Nat):Int) (c.ords[a+i]?.getD default)=s.ordN c a (i+1):=rfl
        have hof:=NQ (Eu hc hlo) cb.2.1
        obtain⟨o,ho⟩:∃o,c.ords[a+i]?.getD default=o:=⟨_,rfl⟩
        rw[ho] at hnext hof
        obtain⟨g,hg,ct⟩:=Jt (s.ordN c a i) hfi.ok hfi.ne (by have:=hfi.le;omega) ((a+i:Nat):Int) o hof
        rw[hnext,Ag,Ah] at ct
        unfold K4 Cp at ct
        rcases hg with rfl|rfl
        ·(try (simp -implicitDefEqProofs only[go_sem,AF,AG,A_,BA,Ag,Ah,ho,hlt',hlo,hlo',wi,Int.toNat_natCast]));repeat' first|(with_reducible first|exact tI|refine aI ?_ ?_|intro _)|((first|with_reducible refine Ad ?_ ?_<;>intro _|(with_reducible refine isCall ?_);first|(refine Ak ([((900000,0),(42,0)),((801000,0),(10042,0))]) ([((900000,0),(42,0)),((801000,1),(10042,1))]) (ct) (by repeat' first|exact True.intro|exact rfl|refine And.intro ?_ ?_) (by simp[Handed,Ar.get,AI.ren,AV.ren,AV.ren.renL,AB.get,Af,Al,Ai,AB.reach,AV.sites,AV.sites.sitesL,AB.osites]) (by simp[AO,A3,AQ,Ar.get,Ai,BH,BJ,Aj,AX]) (by rfl) (by simp only[Au,Ar.get,AI.ren,AV.ren,AV.ren.renL,and_self,and_true,true_and,if_true,reduceIte];rfl) ?_))<;>try (simp -implicitDefEqProofs only[go_sem,AF,AG,A_,BA,Ag,Ah,ho,hlt',hlo,hlo',wi,Int.toNat_natCast]))|simp (disch:=omega) only[A7]|((with_reducible refine Br ?_);refine⟨(_,_,_),rfl,?_,?_⟩)|((with_reducible refine BL ?_);refine⟨_,rfl,?_,?_⟩)
         all_goals first|omega|skip
        ·(try (simp -implicitDefEqProofs only[go_sem,AF,AG,A_,BA,Ag,Ah,ho,hlt',hlo,hlo',wi,Int.toNat_natCast]));repeat' first|(with_reducible first|exact tI|refine aI ?_ ?_|intro _)|((first|with_reducible refine Ad ?_ ?_<;>intro _|(with_reducible refine isCall ?_);first|(refine Ak ([((900000,0),(42,0)),((801000,0),(10042,0))]) ([((900000,0),(42,0)),((801000,2),(10042,1))]) (ct) (by repeat' first|exact True.intro|exact rfl|refine And.intro ?_ ?_) (by simp[Handed,Ar.get,AI.ren,AV.ren,AV.ren.renL,AB.get,Af,Al,Ai,AB.reach,AV.sites,AV.sites.sitesL,AB.osites]) (by simp[AO,A3,AQ,Ar.get,Ai,BH,BJ,Aj,AX]) (by rfl) (by simp only[Au,Ar.get,AI.ren,AV.ren,AV.ren.renL,and_self,and_true,true_and,if_true,reduceIte];rfl) ?_))<;>try (simp -implicitDefEqProofs only[go_sem,AF,AG,A_,BA,Ag,Ah,ho,hlt',hlo,hlo',wi,Int.toNat_natCast]))|simp (disch:=omega) only[A7]|((with_reducible refine Br ?_);refine⟨(_,_,_),rfl,?_,?_⟩)|((with_reducible refine BL ?_);refine⟨_,rfl,?_,?_⟩)
         all_goals first|omega|skip
       ·have hlt':¬((a+i:Nat):Int)<(A:Int):=by omega
        have hiA:A-a=i:=by omega
        rw[hiA] at hst
        obtain⟨u,hu⟩:∃u,s.ordN c a i=u:=⟨_,rfl⟩
        rw[hu] at hfi hst
        have hfi':=SE hfi (show a+i<=A by omega)
        have ul:u.eps.length<=900:=by have:=hfi'.le;omega
        have cC:=US u hfi.ok B hB (by omega)
        unfold J0 Cp at cC
        cases hcan:u.can B with
        |false =>
         have h1:=hbad (by rw[hst,hcan];simp)
         rw[hcan] at cC
         (try (simp -implicitDefEqProofs only[go_sem,hlt',hu]));repeat' first|(with_reducible first|exact tI|refine aI ?_ ?_|intro _)|((first|with_reducible refine Ad ?_ ?_<;>intro _|(with_reducible refine isCall ?_);first|(refine Ak ([((900000,0),(42,0)),((901000,0),(10042,0))]) ([((900000,0),(42,0)),((901000,0),(10042,0))]) (cC) (by repeat' first|exact True.intro|exact rfl|refine And.intro ?_ ?_) (by simp[Handed,Ar.get,AI.ren,AV.ren,AV.ren.renL,AB.get,Af,Al,Ai,AB.reach,AV.sites,AV.sites.sitesL,AB.osites]) (by simp[AO,A3,AQ,Ar.get,Ai,BH,BJ,Aj,AX]) (by rfl) (by simp only[Au,Ar.get,AI.ren,AV.ren,AV.ren.renL,and_self,and_true,true_and,if_true,reduceIte];rfl) ?_))<;>try (simp -implicitDefEqProofs only[go_sem,hlt',hu]))|simp (disch:=omega) only[A7]|((with_reducible refine Br ?_);refine⟨(_,_,_),rfl,?_,?_⟩)|((with_reducible refine BL ?_);refine⟨_,rfl,?_,?_⟩)
         all_goals first|omega|(rw[h1];rfl)|skip
        |true =>
         simp only[hcan,if_true,Bool.and_self,Bool.true_and,decide_true] at hst
         rw[hcan] at cC
         have hfd:=P0 (b:=B) hfi'
         obtain⟨g,hg,ct⟩:=Pj u hfi.ok (by omega) B hB hcan
         obtain⟨v,hv⟩:∃v,u.drain B=v:=⟨_,rfl⟩
         rw[hv] at ct hst hfd
         unfold K4 Cp at ct
         have haA:A=a+i:=by omega
         rcases hg with rfl|rfl
         ·(try (simp -implicitDefEqProofs only[go_sem,hlt',hu,wk]));repeat' first|(with_reducible first|exact tI|refine aI ?_ ?_|intro _)|((first|with_reducible refine Ad ?_ ?_<;>intro _|(with_reducible refine isCall ?_);first|(refine Ak ([((900000,0),(42,0)),((901000,0),(10042,0))]) ([((900000,0),(42,0)),((901000,0),(10042,0))]) (cC) (by repeat' first|exact True.intro|exact rfl|refine And.intro ?_ ?_) (by simp[Handed,Ar.get,AI.ren,AV.ren,AV.ren.renL,AB.get,Af,Al,Ai,AB.reach,AV.sites,AV.sites.sitesL,AB.osites]) (by simp[AO,A3,AQ,Ar.get,Ai,BH,BJ,Aj,AX]) (by rfl) (by simp only[Au,Ar.get,AI.ren,AV.ren,AV.ren.renL,and_self,and_true,true_and,if_true,reduceIte];rfl) ?_)|(refine Ak ([((900000,0),(42,0)),((801000,0),(10042,0))]) ([((900000,0),(42,0)),((801000,1),(10042,1))]) (ct) (by repeat' first|exact True.intro|exact rfl|refine And.intro ?_ ?_) (by simp[Handed,Ar.get,AI.ren,AV.ren,AV.ren.renL,AB.get,Af,Al,Ai,AB.reach,AV.sites,AV.sites.sitesL,AB.osites]) (by simp[AO,A3,AQ,Ar.get,Ai,BH,BJ,Aj,AX]) (by rfl) (by simp only[Au,Ar.get,AI.ren,AV.ren,AV.ren.renL,and_self,and_true,true_and,if_true,reduceIte];rfl) ?_))<;>try (simp -implicitDefEqProofs only[go_sem,hlt',hu,wk]))|simp (disch:=omega) only[A7]|((with_reducible refine Br ?_);refine⟨(_,_,_),rfl,?_,?_⟩)|((with_reducible refine BL ?_);refine⟨_,rfl,?_,?_⟩)
          all_goals first|omega|exact haA ▸ hfd|exact haA ▸ hst.symm|skip
         ·(try (simp -implicitDefEqProofs only[go_sem,hlt',hu,wk]));repeat' first|(with_reducible first|exact tI|refine aI ?_ ?_|intro _)|((first|with_reducible refine Ad ?_ ?_<;>intro _|(with_reducible refine isCall ?_);first|(refine Ak ([((900000,0),(42,0)),((901000,0),(10042,0))]) ([((900000,0),(42,0)),((901000,0),(10042,0))]) (cC) (by repeat' first|exact True.intro|exact rfl|refine And.intro ?_ ?_) (by simp[Handed,Ar.get,AI.ren,AV.ren,AV.ren.renL,AB.get,Af,Al,Ai,AB.reach,AV.sites,AV.sites.sitesL,AB.osites]) (by simp[AO,A3,AQ,Ar.get,Ai,BH,BJ,Aj,AX]) (by rfl) (by simp only[Au,Ar.get,AI.ren,AV.ren,AV.ren.renL,and_self,and_true,true_and,if_true,reduceIte];rfl) ?_)|(refine Ak ([((900000,0),(42,0)),((801000,0),(10042,0))]) ([((900000,0),(42,0)),((801000,2),(10042,1))]) (ct) (by repeat' first|exact True.intro|exact rfl|refine And.intro ?_ ?_) (by simp[Handed,Ar.get,AI.ren,AV.ren,AV.ren.renL,AB.get,Af,Al,Ai,AB.reach,AV.sites,AV.sites.sitesL,AB.osites]) (by simp[AO,A3,AQ,Ar.get,Ai,BH,BJ,Aj,AX]) (by rfl) (by simp only[Au,Ar.get,AI.ren,AV.ren,AV.ren.renL,and_self,and_true,true_and,if_true,reduceIte];rfl) ?_))<;>try (simp -implicitDefEqProofs only[go_sem,hlt',hu,wk]))|simp (disch:=omega) only[A7]|((with_reducible refine Br ?_);refine⟨(_,_,_),rfl,?_,?_⟩)|((with_reducible refine BL ?_);refine⟨_,rfl,?_,?_⟩)
          all_goals first|omega|exact haA ▸ hfd|exact haA ▸ hst.symm|skip
   ·have hke:k=ds.length:=by omega
    subst hke
    have hk':¬(ds.length:Int)<(ds.length:Int):=by omega
    rw[List.drop_length,Fx] at hp
    have hM:Rm c ds false=some (s.ordN c a (c.ords.length-a)).med:=by unfold Rm;rw[←hp];rfl
    have hP0:EF c ds false=0:=by rw[hE2,hM];rfl
    have hL:DW c ds false=(s.ordN c a (c.ords.length-a)).med.take c.blocks.toNat:=by unfold DW;rw[if_pos hP0,hM,Option.getD_some]
    rw[if_pos hP0,hP0,hL]
    (try (simp -implicitDefEqProofs only[go_sem,AP,AF,AG,Az,hk']));repeat' first|(with_reducible first|exact tI|refine aI ?_ ?_|intro _)|((first|with_reducible refine Ad ?_ ?_<;>intro _)<;>try (simp -implicitDefEqProofs only[go_sem,AP,AF,AG,Az,hk']))|simp (disch:=omega) only[A7]|((with_reducible refine Br ?_);refine⟨(_,_,_),rfl,?_,?_⟩)|((with_reducible refine BL ?_);refine⟨_,rfl,?_,?_⟩)
    all_goals first|omega|(simp<;>omega)|skip
    refine BZ (α:=Nat) (l0:=?l3) (m0:=?m3) (fun x=>[(10,.d (.int .i64 ((a+x:Nat):Int)))]) (fun x=>[(42,.cells [.d (.int .i64 ((s.ordN c a x).m 0)),.d (.int .i64 ((s.ordN c a x).m 1)),.d (.int .i64 ((s.ordN c a x).m 2)),.d (.int .i64 ((s.ordN c a x).m 3)),.d (.int .i64 ((s.ordN c a x).m 4)),.d (.int .i64 ((s.ordN c a x).m 5)),.own 10042 0,.d (.int .i64 (s.ordN c a x).wr)]),(10042,.row 103 6 false (Cq (s.ordN c a x).eps))]) (fun x=>a+x<=c.ords.length) (fun x=>c.ords.length-(a+x)) 0 ?h03 ?he3 ?he23 ?hI3 ?step3
    case h03=>(simp -implicitDefEqProofs only[go_sem,Bg.ordN];rfl)
    case he3=>rfl
    case he23=>rfl
    case' step3=>(rintro i hI3;try dsimp only at hI3)
    case' hI3=>try dsimp only
    ·omega
    ·have hfi:=JV (c:=c) hf i
     by_cases hlt:a+i<c.ords.length
     ·have hlt':((a+i:Nat):Int)<(c.ords.length:Int):=by omega
      have wi:IntKind.i64.wrap (((a+i:Nat):Int)+1)=((a+(i+1):Nat):Int):=by rw[BN _ (by omega)];omega
      have hnext:(s.ordN c a i).order ((a+i:Nat):Int) (c.ords[a+i]?.getD default)=s.ordN c a (i+1):=rfl
      have hof:=NQ (Eu hc hlt) cb.2.1
      obtain⟨o,ho⟩:∃o,c.ords[a+i]?.getD default=o:=⟨_,rfl⟩
      rw[ho] at hnext hof
      obtain⟨g,hg,ct⟩:=Jt (s.ordN c a i) hfi.ok hfi.ne (by have:=hfi.le;omega) ((a+i:Nat):Int) o hof
      rw[hnext,Ag,Ah] at ct
      unfold K4 Cp at ct
      rcases hg with rfl|rfl
      ·(try (simp -implicitDefEqProofs only[go_sem,AF,AG,A_,BA,Ag,Ah,ho,hlt',hlt,wi,Int.toNat_natCast]));repeat' first|(with_reducible first|exact tI|refine aI ?_ ?_|intro _)|((first|with_reducible refine Ad ?_ ?_<;>intro _|(with_reducible refine isCall ?_);first|(refine Ak ([((900000,0),(42,0)),((801000,0),(10042,0))]) ([((900000,0),(42,0)),((801000,1),(10042,1))]) (ct) (by repeat' first|exact True.intro|exact rfl|refine And.intro ?_ ?_) (by simp[Handed,Ar.get,AI.ren,AV.ren,AV.ren.renL,AB.get,Af,Al,Ai,AB.reach,AV.sites,AV.sites.sitesL,AB.osites]) (by simp[AO,A3,AQ,Ar.get,Ai,BH,BJ,Aj,AX]) (by rfl) (by simp only[Au,Ar.get,AI.ren,AV.ren,AV.ren.renL,and_self,and_true,true_and,if_true,reduceIte];rfl) ?_))<;>try (simp -implicitDefEqProofs only[go_sem,AF,AG,A_,BA,Ag,Ah,ho,hlt',hlt,wi,Int.toNat_natCast]))|simp (disch:=omega) only[A7]|((with_reducible refine Br ?_);refine⟨(_,_,_),rfl,?_,?_⟩)|((with_reducible refine BL ?_);refine⟨_,rfl,?_,?_⟩)
       all_goals first|omega|skip
      ·(try (simp -implicitDefEqProofs only[go_sem,AF,AG,A_,BA,Ag,Ah,ho,hlt',hlt,wi,Int.toNat_natCast]));repeat' first|(with_reducible first|exact tI|refine aI ?_ ?_|intro _)|((first|with_reducible refine Ad ?_ ?_<;>intro _|(with_reducible refine isCall ?_);first|(refine Ak ([((900000,0),(42,0)),((801000,0),(10042,0))]) ([((900000,0),(42,0)),((801000,2),(10042,1))]) (ct) (by repeat' first|exact True.intro|exact rfl|refine And.intro ?_ ?_) (by simp[Handed,Ar.get,AI.ren,AV.ren,AV.ren.renL,AB.get,Af,Al,Ai,AB.reach,AV.sites,AV.sites.sitesL,AB.osites]) (by simp[AO,A3,AQ,Ar.get,Ai,BH,BJ,Aj,AX]) (by rfl) (by simp only[Au,Ar.get,AI.ren,AV.ren,AV.ren.renL,and_self,and_true,true_and,if_true,reduceIte];rfl) ?_))<;>try (simp -implicitDefEqProofs only[go_sem,AF,AG,A_,BA,Ag,Ah,ho,hlt',hlt,wi,Int.toNat_natCast]))|simp (disch:=omega) only[A7]|((with_reducible refine Br ?_);refine⟨(_,_,_),rfl,?_,?_⟩)|((with_reducible refine BL ?_);refine⟨_,rfl,?_,?_⟩)
       all_goals first|omega|skip
     ·have hlt':¬((a+i:Nat):Int)<(c.ords.length:Int):=by omega
      have hia:c.ords.length-a=i:=by omega
      rw[hia]
      obtain⟨u,hu⟩:∃u,s.ordN c a i=u:=⟨_,rfl⟩
      rw[hu] at hfi ⊢
      have hm:=cU hfi.ok.ml
      rcases (show c.blocks=1\/c.blocks=2\/c.blocks=3 by omega) with hb|hb|hb
      ·have cR:=Cx [u.m 0] (by simp) (by simp)
       have ht:u.med.take c.blocks.toNat=[u.m 0]:=by rw[hm,hb];rfl
       rw[ht]
       (try (simp -implicitDefEqProofs only[go_sem,AF,AG,hlt',hu,hb]));repeat' first|(with_reducible first|exact tI|refine aI ?_ ?_|intro _)|((first|with_reducible refine Ad ?_ ?_<;>intro _|(with_reducible refine isCall ?_);first|refine GX (cR) (by simp[BH]) (by first|exact EA _|exact EM (fun _=>rfl) _|simp[GO,D.cells,D.prim]) ?_)<;>try (simp -implicitDefEqProofs only[go_sem,AF,AG,hlt',hu,hb]))|simp (disch:=omega) only[A7]|((with_reducible refine Br ?_);refine⟨(_,_,_),rfl,?_,?_⟩)|((with_reducible refine BL ?_);refine⟨_,rfl,?_,?_⟩)
      ·have cR:=Cx [u.m 0,u.m 1] (by simp) (by simp)
       have ht:u.med.take c.blocks.toNat=[u.m 0,u.m 1]:=by rw[hm,hb];rfl
       rw[ht]
       (try (simp -implicitDefEqProofs only[go_sem,AF,AG,hlt',hu,hb]));repeat' first|(with_reducible first|exact tI|refine aI ?_ ?_|intro _)|((first|with_reducible refine Ad ?_ ?_<;>intro _|(with_reducible refine isCall ?_);first|refine GX (cR) (by simp[BH]) (by first|exact EA _|exact EM (fun _=>rfl) _|simp[GO,D.cells,D.prim]) ?_)<;>try (simp -implicitDefEqProofs only[go_sem,AF,AG,hlt',hu,hb]))|simp (disch:=omega) only[A7]|((with_reducible refine Br ?_);refine⟨(_,_,_),rfl,?_,?_⟩)|((with_reducible refine BL ?_);refine⟨_,rfl,?_,?_⟩)
      ·have cR:=Cx [u.m 0,u.m 1,u.m 2] (by simp) (by simp)
       have ht:u.med.take c.blocks.toNat=[u.m 0,u.m 1,u.m 2]:=by rw[hm,hb];rfl
       rw[ht]
       (try (simp -implicitDefEqProofs only[go_sem,AF,AG,hlt',hu,hb]));repeat' first|(with_reducible first|exact tI|refine aI ?_ ?_|intro _)|((first|with_reducible refine Ad ?_ ?_<;>intro _|(with_reducible refine isCall ?_);first|refine GX (cR) (by simp[BH]) (by first|exact EA _|exact EM (fun _=>rfl) _|simp[GO,D.cells,D.prim]) ?_)<;>try (simp -implicitDefEqProofs only[go_sem,AF,AG,hlt',hu,hb]))|simp (disch:=omega) only[A7]|((with_reducible refine Br ?_);refine⟨(_,_,_),rfl,?_,?_⟩)|((with_reducible refine BL ?_);refine⟨_,rfl,?_,?_⟩)
 |true =>
  by_cases h0:ds.length=0
  ·have h1:EF c ds true=1:=by rw[hE];unfold PP;rw[decide_eq_true h0];simp
   rw[h1]
   have h0':((ds.length:Nat):Int)=0:=by omega
   (try (simp -implicitDefEqProofs only[go_sem,AP,AF,AG,Az,h16',eq_true h0']));repeat' first|(with_reducible first|exact tI|refine aI ?_ ?_|intro _)|((first|with_reducible refine Ad ?_ ?_<;>intro _|(with_reducible refine isCall ?_);first|refine AH c1 ?_)<;>try (simp -implicitDefEqProofs only[go_sem,AP,AF,AG,Az,h16',eq_true h0']))|simp (disch:=omega) only[A7]|((with_reducible refine Br ?_);refine⟨(_,_,_),rfl,?_,?_⟩)|((with_reducible refine BL ?_);refine⟨_,rfl,?_,?_⟩)
   all_goals first|rfl|omega|(rw[if_neg (by decide)];done)|skip
  have h0':¬((ds.length:Nat):Int)=0:=by omega
  have hpos:0<ds.length:=by omega
  have wl':=wl hpos
  have hl1:ds.length-1<ds.length:=by omega
  obtain⟨z,hz⟩:∃z,ds[ds.length-1]?.getD default=z:=⟨_,rfl⟩
  by_cases hla:z.aft=c.ords.length
  ·have hE2:EF c ds true=if (Rm c ds true).isNone then 1 else 0:=by rw[hE];unfold PP;rw[decide_eq_false h0,hz,hla];simp
   obtain⟨P,hP⟩:∃P,EF c ds true=P:=⟨_,rfl⟩
   (try (simp -implicitDefEqProofs only[go_sem,AP,AF,AG,Az,BG,BO,CT,h16',Cp,h0',eq_false h0',wl',hz,hla,hl1,hpos,Int.toNat_natCast]));repeat' first|(with_reducible first|exact tI|refine aI ?_ ?_|intro _)|((first|with_reducible refine Ad ?_ ?_<;>intro _|(with_reducible refine isCall ?_);first|refine AH c1 ?_|(refine Ak ([]) ([((5,1),(42,0)),((3,1),(10042,0))]) (Pk) (by repeat' first|exact True.intro|exact rfl|refine And.intro ?_ ?_) (by simp[Handed,Ar.get,AI.ren,AV.ren,AV.ren.renL,AB.get,Af,Al,Ai,AB.reach,AV.sites,AV.sites.sitesL,AB.osites]) (by simp[AO,A3,AQ,Ar.get,Ai,BH,BJ,Aj,AX]) (by rfl) (by simp only[Au,Ar.get,AI.ren,AV.ren,AV.ren.renL,and_self,and_true,true_and,if_true,reduceIte];rfl) ?_))<;>try (simp -implicitDefEqProofs only[go_sem,AP,AF,AG,Az,BG,BO,CT,h16',Cp,h0',eq_false h0',wl',hz,hla,hl1,hpos,Int.toNat_natCast]))|simp (disch:=omega) only[A7]|((with_reducible refine Br ?_);refine⟨(_,_,_),rfl,?_,?_⟩)|((with_reducible refine BL ?_);refine⟨_,rfl,?_,?_⟩)
   all_goals first|omega|(simp<;>omega)|skip
   refine BZ (α:=Nat×Nat×Bg) (l0:=?l4) (m0:=?m4) (fun x=>[(45,.d (.int .i64 (x.1:Int))),(10,.d (.int .i64 (x.2.1:Int)))]) (fun x=>[(42,.cells [.d (.int .i64 (x.2.2.m 0)),.d (.int .i64 (x.2.2.m 1)),.d (.int .i64 (x.2.2.m 2)),.d (.int .i64 (x.2.2.m 3)),.d (.int .i64 (x.2.2.m 4)),.d (.int .i64 (x.2.2.m 5)),.own 10042 0,.d (.int .i64 x.2.2.wr)]),(10042,.row 103 6 false (Cq x.2.2.eps))]) (fun x=>(x.1<=ds.length/\x.2.1<=c.ords.length)/\x.2.2.Fit x.2.1/\Fx c (ds.drop x.1) x.2.2 x.2.1=Fx c ds Bg.begin 0) (fun x=>ds.length-x.1) (0,0,Bg.begin) ?h04 ?he4 ?he24 ?hI4 ?step4
   case h04=>(simp -implicitDefEqProofs only[go_sem,Cp];rfl)
   case he4=>rfl
   case he24=>rfl
   case' step4=>(rintro⟨k,a,s⟩ hI4;try dsimp only at hI4)
   case' hI4=>try dsimp only
   ·exact⟨⟨Nat.zero_le _,Nat.zero_le _⟩,P1,rfl⟩
   ·obtain⟨⟨k1,a1⟩,hf,hp⟩:=hI4
    by_cases hk:k<ds.length
    ·have hk':(k:Int)<(ds.length:Int):=by omega
     have hst:=N3 (c:=c) (s:=s) (a:=a) hk
     rw[hp] at hst
     obtain⟨d,hd⟩:∃d,ds[k]?.getD default=d:=⟨_,rfl⟩
     rw[hd] at hst
     have cA:=DV d.aft a c.ords.length
     have cB:=DV d.blk 0 (c.blocks-1)
     have wk:IntKind.i64.wrap ((k:Int)+1)=((k+1:Nat):Int):=by rw[BN _ (by omega)];omega
     obtain⟨qa,hqa⟩:∃q,Ky d.aft a c.ords.length=q:=⟨_,rfl⟩
     obtain⟨qb,hqb⟩:∃q,Ky d.blk 0 (c.blocks-1)=q:=⟨_,rfl⟩
     rw[hqa] at cA
     rw[hqb] at cB hst
     rw[show (decide ((a:Int)<=d.aft) && decide (d.aft<=c.ords.length))=qa from hqa] at hst
     have hbad:Fx c ds Bg.begin 0=none->EF c ds true=1:=fun h=>by rw[hE2];unfold Rm;rw[h];rfl
     cases qa with
     |false =>
      have h1:=hbad (by rw[hst];simp)
      (try (simp -implicitDefEqProofs only[go_sem,AP,AF,AG,Az,BG,BO,CT,hd,hk',Int.toNat_natCast]));repeat' first|(with_reducible first|exact tI|refine aI ?_ ?_|intro _)|((first|with_reducible refine Ad ?_ ?_<;>intro _|(with_reducible refine isCall ?_);first|refine AH cA ?_)<;>try (simp -implicitDefEqProofs only[go_sem,AP,AF,AG,Az,BG,BO,CT,hd,hk',Int.toNat_natCast]))|simp (disch:=omega) only[A7]|((with_reducible refine Br ?_);refine⟨(_,_,_),rfl,?_,?_⟩)|((with_reducible refine BL ?_);refine⟨_,rfl,?_,?_⟩)
      all_goals first|omega|(rw[h1];rfl)|skip
     |true =>
      cases qb with
      |false =>
       have h1:=hbad (by rw[hst];simp)
       (try (simp -implicitDefEqProofs only[go_sem,AP,AF,AG,Az,BG,BO,CT,hd,hk',Int.toNat_natCast,wb]));repeat' first|(with_reducible first|exact tI|refine aI ?_ ?_|intro _)|((first|with_reducible refine Ad ?_ ?_<;>intro _|(with_reducible refine isCall ?_);first|refine AH cA ?_|refine AH cB ?_)<;>try (simp -implicitDefEqProofs only[go_sem,AP,AF,AG,Az,BG,BO,CT,hd,hk',Int.toNat_natCast,wb]))|simp (disch:=omega) only[A7]|((with_reducible refine Br ?_);refine⟨(_,_,_),rfl,?_,?_⟩)|((with_reducible refine BL ?_);refine⟨_,rfl,?_,?_⟩)
       all_goals first|omega|(rw[h1];rfl)|skip
      |true =>
       simp only[Bool.and_self,Bool.true_and,decide_true,if_true] at hst
       simp only[Ky,Bool.and_eq_true,decide_eq_true_eq] at hqa hqb
       obtain⟨da,db⟩:=d
       simp only at hqa hqb hst cA cB
       obtain⟨A,rfl⟩:∃A:Nat,da=(A:Int):=⟨da.toNat,by omega⟩
       obtain⟨B,rfl⟩:∃B:Nat,db=(B:Int):=⟨db.toNat,by omega⟩
       simp only[Int.toNat_natCast] at hst
       have hA:A<=c.ords.length:=by omega
       have hB:B<6:=by omega
       (try (simp -implicitDefEqProofs only[go_sem,AP,AF,AG,Az,BG,BO,CT,hd,hk',Int.toNat_natCast,wb]));repeat' first|(with_reducible first|exact tI|refine aI ?_ ?_|intro _)|((first|with_reducible refine Ad ?_ ?_<;>intro _|(with_reducible refine isCall ?_);first|refine AH cA ?_|refine AH cB ?_)<;>try (simp -implicitDefEqProofs only[go_sem,AP,AF,AG,Az,BG,BO,CT,hd,hk',Int.toNat_natCast,wb]))|simp (disch:=omega) only[A7]|((with_reducible refine Br ?_);refine⟨(_,_,_),rfl,?_,?_⟩)|((with_reducible refine BL ?_);refine⟨_,rfl,?_,?_⟩)
       all_goals first|omega|(simp<;>omega)|skip
       refine BZ (α:=Nat) (l0:=?l5) (m0:=?m5) (fun x=>[(10,.d (.int .i64 ((a+x:Nat):Int)))]) (fun x=>[(42,.cells [.d (.int .i64 ((s.ordN c a x).m 0)),.d (.int .i64 ((s.ordN c a x).m 1)),.d (.int .i64 ((s.ordN c a x).m 2)),.d (.int .i64 ((s.ordN c a x).m 3)),.d (.int .i64 ((s.ordN c a x).m 4)),.d (.int .i64 ((s.ordN c a x).m 5)),.own 10042 0,.d (.int .i64 (s.ordN c a x).wr)]),(10042,.row 103 6 false (Cq (s.ordN c a x).eps))]) (fun x=>a+x<=A) (fun x=>A-(a+x)) 0 ?h05 ?he5 ?he25 ?hI5 ?step5
       case h05=>(simp -implicitDefEqProofs only[go_sem,Bg.ordN];rfl)
       case he5=>rfl
       case he25=>rfl
       case' step5=>(rintro i hI5;try dsimp only at hI5)
       case' hI5=>try dsimp only
       ·omega
       ·have hfi:=JV (c:=c) hf i
        by_cases hlt:a+i<A
        ·have hlt':((a+i:Nat):Int)<(A:Int):=by omega
         have hlo:a+i<c.ords.length:=by omega
         have hlo':((a+i:Nat):Int)<(c.ords.length:Int):=by omega
         have wi:IntKind.i64.wrap (((a+i:Nat):Int)+1)=((a+(i+1):Nat):Int):=by rw[BN _ (by omega)];omega
         have hnext:(s.ordN c a i).order ((a+i:Nat):Int) (c.ords[a+i]?.getD default)=s.ordN c a (i+1):=rfl
         have hof:=NQ (Eu hc hlo) cb.2.1
         obtain⟨o,ho⟩:∃o,c.ords[a+i]?.getD default=o:=⟨_,rfl⟩
         rw[ho] at hnext hof
         obtain⟨g,hg,ct⟩:=Jt (s.ordN c a i) hfi.ok hfi.ne (by have:=hfi.le;omega) ((a+i:Nat):Int) o hof
         rw[hnext,Ag,Ah] at ct
         unfold K4 Cp at ct
         rcases hg with rfl|rfl
         ·(try (simp -implicitDefEqProofs only[go_sem,AF,AG,A_,BA,Ag,Ah,ho,hlt',hlo,hlo',wi,Int.toNat_natCast]));repeat' first|(with_reducible first|exact tI|refine aI ?_ ?_|intro _)|((first|with_reducible refine Ad ?_ ?_<;>intro _|(with_reducible refine isCall ?_);first|(refine Ak ([((900000,0),(42,0)),((801000,0),(10042,0))]) ([((900000,0),(42,0)),((801000,1),(10042,1))]) (ct) (by repeat' first|exact True.intro|exact rfl|refine And.intro ?_ ?_) (by simp[Handed,Ar.get,AI.ren,AV.ren,AV.ren.renL,AB.get,Af,Al,Ai,AB.reach,AV.sites,AV.sites.sitesL,AB.osites]) (by simp[AO,A3,AQ,Ar.get,Ai,BH,BJ,Aj,AX]) (by rfl) (by simp only[Au,Ar.get,AI.ren,AV.ren,AV.ren.renL,and_self,and_true,true_and,if_true,reduceIte];rfl) ?_))<;>try (simp -implicitDefEqProofs only[go_sem,AF,AG,A_,BA,Ag,Ah,ho,hlt',hlo,hlo',wi,Int.toNat_natCast]))|simp (disch:=omega) only[A7]|((with_reducible refine Br ?_);refine⟨(_,_,_),rfl,?_,?_⟩)|((with_reducible refine BL ?_);refine⟨_,rfl,?_,?_⟩)
          all_goals first|omega|skip
         ·(try (simp -implicitDefEqProofs only[go_sem,AF,AG,A_,BA,Ag,Ah,ho,hlt',hlo,hlo',wi,Int.toNat_natCast]));repeat' first|(with_reducible first|exact tI|refine aI ?_ ?_|intro _)|((first|with_reducible refine Ad ?_ ?_<;>intro _|(with_reducible refine isCall ?_);first|(refine Ak ([((900000,0),(42,0)),((801000,0),(10042,0))]) ([((900000,0),(42,0)),((801000,2),(10042,1))]) (ct) (by repeat' first|exact True.intro|exact rfl|refine And.intro ?_ ?_) (by simp[Handed,Ar.get,AI.ren,AV.ren,AV.ren.renL,AB.get,Af,Al,Ai,AB.reach,AV.sites,AV.sites.sitesL,AB.osites]) (by simp[AO,A3,AQ,Ar.get,Ai,BH,BJ,Aj,AX]) (by rfl) (by simp only[Au,Ar.get,AI.ren,AV.ren,AV.ren.renL,and_self,and_true,true_and,if_true,reduceIte];rfl) ?_))<;>try (simp -implicitDefEqProofs only[go_sem,AF,AG,A_,BA,Ag,Ah,ho,hlt',hlo,hlo',wi,Int.toNat_natCast]))|simp (disch:=omega) only[A7]|((with_reducible refine Br ?_);refine⟨(_,_,_),rfl,?_,?_⟩)|((with_reducible refine BL ?_);refine⟨_,rfl,?_,?_⟩)
          all_goals first|omega|skip
        ·have hlt':¬((a+i:Nat):Int)<(A:Int):=by omega
         have hiA:A-a=i:=by omega
         rw[hiA] at hst
         obtain⟨u,hu⟩:∃u,s.ordN c a i=u:=⟨_,rfl⟩
         rw[hu] at hfi hst
         have hfi':=SE hfi (show a+i<=A by omega)
         have ul:u.eps.length<=900:=by have:=hfi'.le;omega
         have cC:=US u hfi.ok B hB (by omega)
         unfold J0 Cp at cC
         cases hcan:u.can B with
         |false =>
          have h1:=hbad (by rw[hst,hcan];simp)
          rw[hcan] at cC
          (try (simp -implicitDefEqProofs only[go_sem,hlt',hu]));repeat' first|(with_reducible first|exact tI|refine aI ?_ ?_|intro _)|((first|with_reducible refine Ad ?_ ?_<;>intro _|(with_reducible refine isCall ?_);first|(refine Ak ([((900000,0),(42,0)),((901000,0),(10042,0))]) ([((900000,0),(42,0)),((901000,0),(10042,0))]) (cC) (by repeat' first|exact True.intro|exact rfl|refine And.intro ?_ ?_) (by simp[Handed,Ar.get,AI.ren,AV.ren,AV.ren.renL,AB.get,Af,Al,Ai,AB.reach,AV.sites,AV.sites.sitesL,AB.osites]) (by simp[AO,A3,AQ,Ar.get,Ai,BH,BJ,Aj,AX]) (by rfl) (by simp only[Au,Ar.get,AI.ren,AV.ren,AV.ren.renL,and_self,and_true,true_and,if_true,reduceIte];rfl) ?_))<;>try (simp -implicitDefEqProofs only[go_sem,hlt',hu]))|simp (disch:=omega) only[A7]|((with_reducible refine Br ?_);refine⟨(_,_,_),rfl,?_,?_⟩)|((with_reducible refine BL ?_);refine⟨_,rfl,?_,?_⟩)
          all_goals first|omega|(rw[h1];rfl)|skip
         |true =>
          simp only[hcan,if_true,Bool.and_self,Bool.true_and,decide_true] at hst
          rw[hcan] at cC
          have hfd:=P0 (b:=B) hfi'
          obtain⟨g,hg,ct⟩:=Pj u hfi.ok (by omega) B hB hcan
          obtain⟨v,hv⟩:∃v,u.drain B=v:=⟨_,rfl⟩
          rw[hv] at ct hst hfd
          unfold K4 Cp at ct
          have haA:A=a+i:=by omega
          rcases hg with rfl|rfl
          ·(try (simp -implicitDefEqProofs only[go_sem,hlt',hu,wk]));repeat' first|(with_reducible first|exact tI|refine aI ?_ ?_|intro _)|((first|with_reducible refine Ad ?_ ?_<;>intro _|(with_reducible refine isCall ?_);first|(refine Ak ([((900000,0),(42,0)),((901000,0),(10042,0))]) ([((900000,0),(42,0)),((901000,0),(10042,0))]) (cC) (by repeat' first|exact True.intro|exact rfl|refine And.intro ?_ ?_) (by simp[Handed,Ar.get,AI.ren,AV.ren,AV.ren.renL,AB.get,Af,Al,Ai,AB.reach,AV.sites,AV.sites.sitesL,AB.osites]) (by simp[AO,A3,AQ,Ar.get,Ai,BH,BJ,Aj,AX]) (by rfl) (by simp only[Au,Ar.get,AI.ren,AV.ren,AV.ren.renL,and_self,and_true,true_and,if_true,reduceIte];rfl) ?_)|(refine Ak ([((900000,0),(42,0)),((801000,0),(10042,0))]) ([((900000,0),(42,0)),((801000,1),(10042,1))]) (ct) (by repeat' first|exact True.intro|exact rfl|refine And.intro ?_ ?_) (by simp[Handed,Ar.get,AI.ren,AV.ren,AV.ren.renL,AB.get,Af,Al,Ai,AB.reach,AV.sites,AV.sites.sitesL,AB.osites]) (by simp[AO,A3,AQ,Ar.get,Ai,BH,BJ,Aj,AX]) (by rfl) (by simp only[Au,Ar.get,AI.ren,AV.ren,AV.ren.renL,and_self,and_true,true_and,if_true,reduceIte];rfl) ?_))<;>try (simp -implicitDefEqProofs only[go_sem,hlt',hu,wk]))|simp (disch:=omega) only[A7]|((with_reducible refine Br ?_);refine⟨(_,_,_),rfl,?_,?_⟩)|((with_reducible refine BL ?_);refine⟨_,rfl,?_,?_⟩)
           all_goals first|omega|exact haA ▸ hfd|exact haA ▸ hst.symm|skip
          ·(try (simp -implicitDefEqProofs only[go_sem,hlt',hu,wk]));repeat' first|(with_reducible first|exact tI|refine aI ?_ ?_|intro _)|((first|with_reducible refine Ad ?_ ?_<;>intro _|(with_reducible refine isCall ?_);first|(refine Ak ([((900000,0),(42,0)),((901000,0),(10042,0))]) ([((900000,0),(42,0)),((901000,0),(10042,0))]) (cC) (by repeat' first|exact True.intro|exact rfl|refine And.intro ?_ ?_) (by simp[Handed,Ar.get,AI.ren,AV.ren,AV.ren.renL,AB.get,Af,Al,Ai,AB.reach,AV.sites,AV.sites.sitesL,AB.osites]) (by simp[AO,A3,AQ,Ar.get,Ai,BH,BJ,Aj,AX]) (by rfl) (by simp only[Au,Ar.get,AI.ren,AV.ren,AV.ren.renL,and_self,and_true,true_and,if_true,reduceIte];rfl) ?_)|(refine Ak ([((900000,0),(42,0)),((801000,0),(10042,0))]) ([((900000,0),(42,0)),((801000,2),(10042,1))]) (ct) (by repeat' first|exact True.intro|exact rfl|refine And.intro ?_ ?_) (by simp[Handed,Ar.get,AI.ren,AV.ren,AV.ren.renL,AB.get,Af,Al,Ai,AB.reach,AV.sites,AV.sites.sitesL,AB.osites]) (by simp[AO,A3,AQ,Ar.get,Ai,BH,BJ,Aj,AX]) (by rfl) (by simp only[Au,Ar.get,AI.ren,AV.ren,AV.ren.renL,and_self,and_true,true_and,if_true,reduceIte];rfl) ?_))<;>try (simp -implicitDefEqProofs only[go_sem,hlt',hu,wk]))|simp (disch:=omega) only[A7]|((with_reducible refine Br ?_);refine⟨(_,_,_),rfl,?_,?_⟩)|((with_reducible refine BL ?_);refine⟨_,rfl,?_,?_⟩)
           all_goals first|omega|exact haA ▸ hfd|exact haA ▸ hst.symm|skip
    ·have hke:k=ds.length:=by omega
     subst hke
     have hk':¬(ds.length:Int)<(ds.length:Int):=by omega
     rw[List.drop_length,Fx] at hp
     have hM:Rm c ds true=some ((s.ordN c a (c.ords.length-a)).med.set z.blk.toNat (-2)):=by unfold Rm;rw[←hp,hz];rfl
     have hP0:EF c ds true=0:=by rw[hE2,hM];rfl
     have hL:DW c ds true=((s.ordN c a (c.ords.length-a)).med.set z.blk.toNat (-2)).take c.blocks.toNat:=by unfold DW;rw[if_pos hP0,hM,Option.getD_some]
     have hzb:=(MN hc ds Bg.begin 0 (Nat.zero_le _) (Pv c) hp.symm).2.2 z (by rw[←hz,List.getElem?_eq_getElem hl1,Option.getD_some];exact List.getElem_mem hl1)
     rw[if_pos hP0,hP0,hL]
     (try (simp -implicitDefEqProofs only[go_sem,AP,AF,AG,Az,hk']));repeat' first|(with_reducible first|exact tI|refine aI ?_ ?_|intro _)|((first|with_reducible refine Ad ?_ ?_<;>intro _)<;>try (simp -implicitDefEqProofs only[go_sem,AP,AF,AG,Az,hk']))|simp (disch:=omega) only[A7]|((with_reducible refine Br ?_);refine⟨(_,_,_),rfl,?_,?_⟩)|((with_reducible refine BL ?_);refine⟨_,rfl,?_,?_⟩)
     all_goals first|omega|(simp<;>omega)|skip
     refine BZ (α:=Nat) (l0:=?l6) (m0:=?m6) (fun x=>[(10,.d (.int .i64 ((a+x:Nat):Int)))]) (fun x=>[(42,.cells [.d (.int .i64 ((s.ordN c a x).m 0)),.d (.int .i64 ((s.ordN c a x).m 1)),.d (.int .i64 ((s.ordN c a x).m 2)),.d (.int .i64 ((s.ordN c a x).m 3)),.d (.int .i64 ((s.ordN c a x).m 4)),.d (.int .i64 ((s.ordN c a x).m 5)),.own 10042 0,.d (.int .i64 (s.ordN c a x).wr)]),(10042,.row 103 6 false (Cq (s.ordN c a x).eps))]) (fun x=>a+x<=c.ords.length) (fun x=>c.ords.length-(a+x)) 0 ?h06 ?he6 ?he26 ?hI6 ?step6
     case h06=>(simp -implicitDefEqProofs only[go_sem,Bg.ordN];rfl)
     case he6=>rfl
     case he26=>rfl
     case' step6=>(rintro i hI6;try dsimp only at hI6)
     case' hI6=>try dsimp only
     ·omega
     ·have hfi:=JV (c:=c) hf i
      by_cases hlt:a+i<c.ords.length
      ·have hlt':((a+i:Nat):Int)<(c.ords.length:Int):=by omega
       have wi:IntKind.i64.wrap (((a+i:Nat):Int)+1)=((a+(i+1):Nat):Int):=by rw[BN _ (by omega)];omega
       have hnext:(s.ordN c a i).order ((a+i:Nat):Int) (c.ords[a+i]?.getD default)=s.ordN c a (i+1):=rfl
       have hof:=NQ (Eu hc hlt) cb.2.1
       obtain⟨o,ho⟩:∃o,c.ords[a+i]?.getD default=o:=⟨_,rfl⟩
       rw[ho] at hnext hof
       obtain⟨g,hg,ct⟩:=Jt (s.ordN c a i) hfi.ok hfi.ne (by have:=hfi.le;omega) ((a+i:Nat):Int) o hof
       rw[hnext,Ag,Ah] at ct
       unfold K4 Cp at ct
       rcases hg with rfl|rfl
       ·(try (simp -implicitDefEqProofs only[go_sem,AF,AG,A_,BA,Ag,Ah,ho,hlt',hlt,wi,Int.toNat_natCast]));repeat' first|(with_reducible first|exact tI|refine aI ?_ ?_|intro _)|((first|with_reducible refine Ad ?_ ?_<;>intro _|(with_reducible refine isCall ?_);first|(refine Ak ([((900000,0),(42,0)),((801000,0),(10042,0))]) ([((900000,0),(42,0)),((801000,1),(10042,1))]) (ct) (by repeat' first|exact True.intro|exact rfl|refine And.intro ?_ ?_) (by simp[Handed,Ar.get,AI.ren,AV.ren,AV.ren.renL,AB.get,Af,Al,Ai,AB.reach,AV.sites,AV.sites.sitesL,AB.osites]) (by simp[AO,A3,AQ,Ar.get,Ai,BH,BJ,Aj,AX]) (by rfl) (by simp only[Au,Ar.get,AI.ren,AV.ren,AV.ren.renL,and_self,and_true,true_and,if_true,reduceIte];rfl) ?_))<;>try (simp -implicitDefEqProofs only[go_sem,AF,AG,A_,BA,Ag,Ah,ho,hlt',hlt,wi,Int.toNat_natCast]))|simp (disch:=omega) only[A7]|((with_reducible refine Br ?_);refine⟨(_,_,_),rfl,?_,?_⟩)|((with_reducible refine BL ?_);refine⟨_,rfl,?_,?_⟩)
        all_goals first|omega|skip
       ·(try (simp -implicitDefEqProofs only[go_sem,AF,AG,A_,BA,Ag,Ah,ho,hlt',hlt,wi,Int.toNat_natCast]));repeat' first|(with_reducible first|exact tI|refine aI ?_ ?_|intro _)|((first|with_reducible refine Ad ?_ ?_<;>intro _|(with_reducible refine isCall ?_);first|(refine Ak ([((900000,0),(42,0)),((801000,0),(10042,0))]) ([((900000,0),(42,0)),((801000,2),(10042,1))]) (ct) (by repeat' first|exact True.intro|exact rfl|refine And.intro ?_ ?_) (by simp[Handed,Ar.get,AI.ren,AV.ren,AV.ren.renL,AB.get,Af,Al,Ai,AB.reach,AV.sites,AV.sites.sitesL,AB.osites]) (by simp[AO,A3,AQ,Ar.get,Ai,BH,BJ,Aj,AX]) (by rfl) (by simp only[Au,Ar.get,AI.ren,AV.ren,AV.ren.renL,and_self,and_true,true_and,if_true,reduceIte];rfl) ?_))<;>try (simp -implicitDefEqProofs only[go_sem,AF,AG,A_,BA,Ag,Ah,ho,hlt',hlt,wi,Int.toNat_natCast]))|simp (disch:=omega) only[A7]|((with_reducible refine Br ?_);refine⟨(_,_,_),rfl,?_,?_⟩)|((with_reducible refine BL ?_);refine⟨_,rfl,?_,?_⟩)
        all_goals first|omega|skip
      ·have hlt':¬((a+i:Nat):Int)<(c.ords.length:Int):=by omega
       have hia:c.ords.length-a=i:=by omega
       rw[hia]
       obtain⟨u,hu⟩:∃u,s.ordN c a i=u:=⟨_,rfl⟩
       rw[hu] at hfi ⊢
       have hm:=cU hfi.ok.ml
       obtain⟨zb,hzb'⟩:∃zb,z.blk=zb:=⟨_,rfl⟩
       rw[hzb'] at hzb ⊢
       rcases (show c.blocks=1\/c.blocks=2\/c.blocks=3 by omega) with hb|hb|hb
       ·rcases (show zb=0 by omega) with hk
        ·have cR:=Cx [-2] (by simp) (by simp)
         have ht:(u.med.set zb.toNat (-2)).take c.blocks.toNat=[-2]:=by rw[hm,hb,hk];rfl
         rw[ht]
         (try (simp -implicitDefEqProofs only[go_sem,AF,AG,hlt',hu,hb,hk,hzb',Az,BG,BO,CT,wl',hz,hl1,hpos,Int.toNat_natCast]));repeat' first|(with_reducible first|exact tI|refine aI ?_ ?_|intro _)|((first|with_reducible refine Ad ?_ ?_<;>intro _|(with_reducible refine isCall ?_);first|refine GX (cR) (by simp[BH]) (by first|exact EA _|exact EM (fun _=>rfl) _|simp[GO,D.cells,D.prim]) ?_)<;>try (simp -implicitDefEqProofs only[go_sem,AF,AG,hlt',hu,hb,hk,hzb',Az,BG,BO,CT,wl',hz,hl1,hpos,Int.toNat_natCast]))|simp (disch:=omega) only[A7]|((with_reducible refine Br ?_);refine⟨(_,_,_),rfl,?_,?_⟩)|((with_reducible refine BL ?_);refine⟨_,rfl,?_,?_⟩)
         all_goals first|omega|skip
       ·rcases (show zb=0\/zb=1 by omega) with hk|hk
        ·have cR:=Cx [-2,u.m 1] (by simp) (by simp)
         have ht:(u.med.set zb.toNat (-2)).take c.blocks.toNat=[-2,u.m 1]:=by rw[hm,hb,hk];rfl
         rw[ht]
         (try (simp -implicitDefEqProofs only[go_sem,AF,AG,hlt',hu,hb,hk,hzb',Az,BG,BO,CT,wl',hz,hl1,hpos,Int.toNat_natCast]));repeat' first|(with_reducible first|exact tI|refine aI ?_ ?_|intro _)|((first|with_reducible refine Ad ?_ ?_<;>intro _|(with_reducible refine isCall ?_);first|refine GX (cR) (by simp[BH]) (by first|exact EA _|exact EM (fun _=>rfl) _|simp[GO,D.cells,D.prim]) ?_)<;>try (simp -implicitDefEqProofs only[go_sem,AF,AG,hlt',hu,hb,hk,hzb',Az,BG,BO,CT,wl',hz,hl1,hpos,Int.toNat_natCast]))|simp (disch:=omega) only[A7]|((with_reducible refine Br ?_);refine⟨(_,_,_),rfl,?_,?_⟩)|((with_reducible refine BL ?_);refine⟨_,rfl,?_,?_⟩)
         all_goals first|omega|skip
        ·have cR:=Cx [u.m 0,-2] (by simp) (by simp)
         have ht:(u.med.set zb.toNat (-2)).take c.blocks.toNat=[u.m 0,-2]:=by rw[hm,hb,hk];rfl
         rw[ht]
         (try (simp -implicitDefEqProofs only[go_sem,AF,AG,hlt',hu,hb,hk,hzb',Az,BG,BO,CT,wl',hz,hl1,hpos,Int.toNat_natCast]));repeat' first|(with_reducible first|exact tI|refine aI ?_ ?_|intro _)|((first|with_reducible refine Ad ?_ ?_<;>intro _|(with_reducible refine isCall ?_);first|refine GX (cR) (by simp[BH]) (by first|exact EA _|exact EM (fun _=>rfl) _|simp[GO,D.cells,D.prim]) ?_)<;>try (simp -implicitDefEqProofs only[go_sem,AF,AG,hlt',hu,hb,hk,hzb',Az,BG,BO,CT,wl',hz,hl1,hpos,Int.toNat_natCast]))|simp (disch:=omega) only[A7]|((with_reducible refine Br ?_);refine⟨(_,_,_),rfl,?_,?_⟩)|((with_reducible refine BL ?_);refine⟨_,rfl,?_,?_⟩)
         all_goals first|omega|skip
       ·rcases (show zb=0\/zb=1\/zb=2 by omega) with hk|hk|hk
        ·have cR:=Cx [-2,u.m 1,u.m 2] (by simp) (by simp)
         have ht:(u.med.set zb.toNat (-2)).take c.blocks.toNat=[-2,u.m 1,u.m 2]:=by rw[hm,hb,hk];rfl
         rw[ht]
         (try (simp -implicitDefEqProofs only[go_sem,AF,AG,hlt',hu,hb,hk,hzb',Az,BG,BO,CT,wl',hz,hl1,hpos,Int.toNat_natCast]));repeat' first|(with_reducible first|exact tI|refine aI ?_ ?_|intro _)|((first|with_reducible refine Ad ?_ ?_<;>intro _|(with_reducible refine isCall ?_);first|refine GX (cR) (by simp[BH]) (by first|exact EA _|exact EM (fun _=>rfl) _|simp[GO,D.cells,D.prim]) ?_)<;>try (simp -implicitDefEqProofs only[go_sem,AF,AG,hlt',hu,hb,hk,hzb',Az,BG,BO,CT,wl',hz,hl1,hpos,Int.toNat_natCast]))|simp (disch:=omega) only[A7]|((with_reducible refine Br ?_);refine⟨(_,_,_),rfl,?_,?_⟩)|((with_reducible refine BL ?_);refine⟨_,rfl,?_,?_⟩)
         all_goals first|omega|skip
        ·have cR:=Cx [u.m 0,-2,u.m 2] (by simp) (by simp)
         have ht:(u.med.set zb.toNat (-2)).take c.blocks.toNat=[u.m 0,-2,u.m 2]:=by rw[hm,hb,hk];rfl
         rw[ht]
         (try (simp -implicitDefEqProofs only[go_sem,AF,AG,hlt',hu,hb,hk,hzb',Az,BG,BO,CT,wl',hz,hl1,hpos,Int.toNat_natCast]));repeat' first|(with_reducible first|exact tI|refine aI ?_ ?_|intro _)|((first|with_reducible refine Ad ?_ ?_<;>intro _|(with_reducible refine isCall ?_);first|refine GX (cR) (by simp[BH]) (by first|exact EA _|exact EM (fun _=>rfl) _|simp[GO,D.cells,D.prim]) ?_)<;>try (simp -implicitDefEqProofs only[go_sem,AF,AG,hlt',hu,hb,hk,hzb',Az,BG,BO,CT,wl',hz,hl1,hpos,Int.toNat_natCast]))|simp (disch:=omega) only[A7]|((with_reducible refine Br ?_);refine⟨(_,_,_),rfl,?_,?_⟩)|((with_reducible refine BL ?_);refine⟨_,rfl,?_,?_⟩)
         all_goals first|omega|skip
        ·have cR:=Cx [u.m 0,u.m 1,-2] (by simp) (by simp)
         have ht:(u.med.set zb.toNat (-2)).take c.blocks.toNat=[u.m 0,u.m 1,-2]:=by rw[hm,hb,hk];rfl
         rw[ht]
         (try (simp -implicitDefEqProofs only[go_sem,AF,AG,hlt',hu,hb,hk,hzb',Az,BG,BO,CT,wl',hz,hl1,hpos,Int.toNat_natCast]));repeat' first|(with_reducible first|exact tI|refine aI ?_ ?_|intro _)|((first|with_reducible refine Ad ?_ ?_<;>intro _|(with_reducible refine isCall ?_);first|refine GX (cR) (by simp[BH]) (by first|exact EA _|exact EM (fun _=>rfl) _|simp[GO,D.cells,D.prim]) ?_)<;>try (simp -implicitDefEqProofs only[go_sem,AF,AG,hlt',hu,hb,hk,hzb',Az,BG,BO,CT,wl',hz,hl1,hpos,Int.toNat_natCast]))|simp (disch:=omega) only[A7]|((with_reducible refine Br ?_);refine⟨(_,_,_),rfl,?_,?_⟩)|((with_reducible refine BL ?_);refine⟨_,rfl,?_,?_⟩)
         all_goals first|omega|skip
  ·have h1:EF c ds true=1:=by rw[hE];unfold PP;rw[hz,decide_eq_true (p:=z.aft≠c.ords.length) hla];simp
   rw[h1]
   (try (simp -implicitDefEqProofs only[go_sem,AP,AF,AG,Az,BG,BO,CT,h16',h0',eq_false h0',wl',hz,hla,hl1,hpos,Int.toNat_natCast]));repeat' first|(with_reducible first|exact tI|refine aI ?_ ?_|intro _)|((first|with_reducible refine Ad ?_ ?_<;>intro _|(with_reducible refine isCall ?_);first|refine AH c1 ?_)<;>try (simp -implicitDefEqProofs only[go_sem,AP,AF,AG,Az,BG,BO,CT,h16',h0',eq_false h0',wl',hz,hla,hl1,hpos,Int.toNat_natCast]))|simp (disch:=omega) only[A7]|((with_reducible refine Br ?_);refine⟨(_,_,_),rfl,?_,?_⟩)|((with_reducible refine BL ?_);refine⟨_,rfl,?_,?_⟩)
   all_goals first|rfl|omega|(rw[if_neg (by decide)];done)|skip
end Go.Pw

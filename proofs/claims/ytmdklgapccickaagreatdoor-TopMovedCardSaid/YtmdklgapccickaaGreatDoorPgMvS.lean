/- Part. -/
import Derived.Test.YtmdklgapccickaaGreatDoorPgMvH
import Derived.Test.YtmdklgapccickaaGreatDoorZonesSpec4
import Derived.Test.YtmdklgapccickaaGreatDoorPgMvM
set_option linter.all false
open Go Go.Pw Go.Proofs
namespace Go.Pw
set_option maxRecDepth 100000
set_option maxHeartbeats 6400000
section
def iy(d:AQ):Bool:=decide (20<d.zones.length) || (d.ok && (decide (200<d.size) || decide (120<d.turn)))
def qc(f:B9):Bool:=iy f.d || (decide (100<f.pr.length) || decide (60<f.gr.length))
def isF(f:B9):Bool:=(decide (0<=f.sp/\f.sp<=20) && decide (f.pr.length<=60)) && US f.pr 0 (f.d.size-1)
def dS(f:B9):Int:=if f.d.ok then(if isF f then 0 else 30)else 10
theorem wY{f:B9}(h:dS f=0)(hg:f.gr=[]):f.Base:=by
 unfold dS at h;split at h
 ·rename_i hd;split at h
  ·rename_i e;unfold isF at e;simp only[Bool.and_eq_true,decide_eq_true_eq]at e;exact⟨hd,e.1.1,e.1.2,e.2,by rw[hg];exact Nat.zero_le _⟩
  ·omega
 ·omega
attribute [local irreducible] IntKind.wrap Ah Option.getD and or
theorem L9(d:AQ)(h:d.ok=true):BU E0 Pc [K8 d] (.int .i64 d.size):=by
 have g:=FQ h;refine AL UH AR (by simp) fun A=>?_
 have z2:=g.z2;have M:=g.h1;have L:=g.h2;have B:=g.hn;rw[AN];unfold NN;refine' MX @Aw @AX
 all_goals try exact BL
 refine BN (α:=Int×Int) (l0:=?l1) (m0:=?m1) (fun x=>[(4,.d (.int .i64 x.1)),(3,.d (.int .i64 x.2))]) (fun x=>[]) (fun x=>(0<=x.1/\x.1<=d.zones.length)/\x.2=d.tf (d.base x.1.toNat * d.heads.toNat)) (fun x=>(d.zones.length-x.1).toNat) (?a1_0,?a1_1) ?h01 ?he1 ?he21 ?hI1 ?step1
 case h01=>(simp -implicitDefEqProofs only[go_sem,AX,Ai];rfl)
 case he1=>rfl
 case he21=>rfl
 case' step1=>(rintro⟨i,n⟩ o;try dsimp only at o)
 case' hI1=>try dsimp only
 ·exact⟨⟨by omega,by omega⟩,by simp[AQ.base,AQ.tf]⟩
 ·obtain⟨⟨h1,h2⟩,p⟩:=o
  by_cases hi:i<d.zones.length
  ·have t:=g.z i.toNat (by omega);have j:=h_ (d:=d) (i:=i.toNat) (by omega) (d.zones[i.toNat]?.getD default).1.toNat (Nat.le_refl _)
   have m:d.base i.toNat * d.heads.toNat<=d.nt:=by
    have:=jI d i.toNat d.zones.length (by omega);rw[N3]at this;exact Nat.mul_le_mul_right _ this
   have hb:=g.tf _ m;have G:=g.nt;obtain⟨z,e⟩:∃z,d.zones[i.toNat]?.getD default=z:=⟨_,rfl⟩
   rw[e]at t j;have hn:d.base (i+1).toNat=d.base i.toNat+z.1.toNat:=by rw[show(i+1).toNat=i.toNat+1 by omega,AQ.base,e]
   rw[←hn,←p,show((z.1.toNat:Nat):Int)=z.1 by omega,B,←Int.mul_assoc]at j;have m1:0<=z.1*z.2/\z.1*z.2<=20*16:=⟨Int.mul_nonneg (by omega) (by omega),Int.mul_le_mul (by omega) (by omega) (by omega) (by omega)⟩
   have J:0<=z.1*z.2*d.heads/\z.1*z.2*d.heads<=20*16*4:=⟨Int.mul_nonneg (by omega) (by omega),Int.mul_le_mul (by omega) (by omega) (by omega) (by omega)⟩
   have u:IntKind.i64.wrap (i+1)=i+1:=Am _ (by omega);have q:IntKind.i64.wrap (z.1*z.2)=z.1*z.2:=Am _ (by omega);have r:IntKind.i64.wrap (z.1*z.2*d.heads)=z.1*z.2*d.heads:=Am _ (by omega);have y:IntKind.i64.wrap (n+z.1*z.2*d.heads)=n+z.1*z.2*d.heads:=Am _ (by omega);refine' P4 @AX @Ai @Bg e @EH @Bm u (aI q (aI r y))
   all_goals try exact BL
  ·have l:i=d.zones.length:=by omega
   have hn:n=d.size:=by rw[p,l,AQ.size,AQ.nt,←N3];simp
   refine' LV @AX @Ai hi
   all_goals try exact BL
theorem Px(d:AQ)(h:d.ok=true)(n:Int):BU E0 LN [K8 d,.int .i64 n] (.bool (Oe n 0 (d.size-1))):=by
 refine AL P9 AR (by simp) fun i=>?_
 have g:=FQ h;have j:=Pq g;have c1:=L9 d h;have c2:=Bo n 0 (d.size-1);have e:IntKind.i64.wrap (d.size-1)=d.size-1:=Am _ (by omega);rw[AN];unfold Jv
 cases hb:Oe n 0 (d.size-1)with
 |false=>rw[hb]at c2;refine' FA @Aw @AX e;repeat' first|(refine' BJ;(first|refine AF c1 ?_|refine AF c2 ?_)<;>refine' FA @Aw @AX e)|refine' BI|done
 |true=>rw[hb]at c2;refine' FA @Aw @AX e;repeat' first|(refine' BJ;(first|refine AF c1 ?_|refine AF c2 ?_)<;>refine' FA @Aw @AX e)|refine' BI|done
theorem Wt(d:AQ):BU E0 Tw [K8 d] (.bool (iy d)):=by
 refine AL W6 AR (by simp) fun j=>?_
 have c1:=L_ d;unfold AQ.check at c1;rw[AN];unfold Qv iy
 by_cases i:20<d.zones.length
 ·have e:20<(d.zones.length:Int):=by omega
  rw[decide_eq_true i,Bool.true_or];refine' Gj @Aw @AX @Ai e;repeat' first|(refine' BJ;(first|refine AF c1 ?_)<;>refine' Gj @Aw @AX @Ai e)|refine' BI|done
  all_goals first|omega|rfl
 ·have e:¬20<(d.zones.length:Int):=by omega
  rw[decide_eq_false i,Bool.false_or]
  cases hd:d.ok with
  |false =>
   rw[hd]at c1;rw[Bool.false_and];refine' Gj @Aw @AX @Ai e;repeat' first|(refine' BJ;(first|refine AF c1 ?_)<;>refine' Gj @Aw @AX @Ai e)|refine' BI|done
   all_goals first|omega|rfl
  |true =>
   rw[hd]at c1;have c2:=L9 d hd;rw[Bool.true_and]
   by_cases h2:200<d.size
   ·rw[decide_eq_true h2,Bool.true_or];refine' dz @Aw @AX @Ai e h2;repeat' first|(refine' BJ;(first|refine AF c1 ?_|refine AF c2 ?_)<;>refine' dz @Aw @AX @Ai e h2)|refine' BI|done
    all_goals first|omega|rfl
   ·rw[decide_eq_false h2,Bool.false_or]
    by_cases h:120<d.turn
    ·rw[decide_eq_true h];refine' QX @Aw @AX @Ai e h2 h;repeat' first|(refine' BJ;(first|refine AF c1 ?_|refine AF c2 ?_)<;>refine' QX @Aw @AX @Ai e h2 h)|refine' BI|done
     all_goals first|omega|rfl
    ·rw[decide_eq_false h];refine' QX @Aw @AX @Ai e h2 h;repeat' first|(refine' BJ;(first|refine AF c1 ?_|refine AF c2 ?_)<;>refine' QX @Aw @AX @Ai e h2 h)|refine' BI|done
     all_goals first|omega|rfl
theorem Sf(n lo hi:Int):BU E0 OG [.int .i64 n,.int .i64 lo,.int .i64 hi] (.bool (decide (lo<=n/\n<=hi))):=by
 refine AL S1 AR (by simp) fun e=>?_
 rw[AN];unfold ML;refine' FP
 all_goals first|omega|(simp_all[Cw];done)|(simp_all[Cw];omega)|grind
theorem Ws(f:B9):BU E0 Tv [HX f] (.bool (qc f)):=by
 refine AL W5 AR (by simp) fun i=>?_
 have c1:=Wt f.d;rw[Aw,AX]at c1;rw[AN];unfold Qu qc;obtain⟨b,hb⟩:∃b,iy f.d=b:=⟨_,rfl⟩
 rw[hb]at c1 ⊢
 by_cases h1:100<f.pr.length
 ·have e:(100:Int)<(f.pr.length:Int):=by omega
  rw[decide_eq_true h1]
  cases b<;>(refine' FA @Aj @Ao e;repeat' first|(refine' BJ;(first|refine AF c1 ?_)<;>refine' FA @Aj @Ao e)|refine' BI|done)<;>first|rfl
 ·have e:¬(100:Int)<(f.pr.length:Int):=by omega
  rw[decide_eq_false h1]
  by_cases h2:60<f.gr.length
  ·have h:(60:Int)<(f.gr.length:Int):=by omega
   rw[decide_eq_true h2]
   cases b<;>(refine' dz @Aj @Ao e h @A_;repeat' first|(refine' BJ;(first|refine AF c1 ?_)<;>refine' dz @Aj @Ao e h @A_)|refine' BI|done)<;>first|rfl
  ·have h:¬(60:Int)<(f.gr.length:Int):=by omega
   rw[decide_eq_false h2]
   cases b<;>(refine' dz @Aj @Ao e h @A_;repeat' first|(refine' BJ;(first|refine AF c1 ?_)<;>refine' dz @Aj @Ao e h @A_)|refine' BI|done)<;>first|rfl
theorem T6(nl:Bool):BU E0 Pa [.list nl []] (.bool false):=by
 refine AL UF AR (by simp) fun j=>?_
 rw[AN];unfold NL;refine' FP
 all_goals try exact BL
 have e:¬(0:Int)<((0:Nat):Int):=by omega
 refine AZ (α:=Int) (fun x=>[(3,.d (.int .i64 x))]) (fun x=>[]) (fun x=>0<=x/\x<=0) (fun x=>(1-x).toNat) 0 ?hI2 ?step2
 case' step2=>(rintro i l;try dsimp only at l)
 case' hI2=>try dsimp only
 ·exact⟨by omega,by omega⟩
 ·have h:i=0:=by omega
  subst h;refine' HM e
  all_goals first|omega|rfl
theorem Pv(f:B9)(h:f.d.ok=true)(hg:f.gr=[]):BU E0 LM [HX f] (.bool (isF f)):=by
 refine AL P8 AR (by simp) fun U=>?_
 have c1:=Sf f.sp 0 20;have T:=Pq (FQ h);have m:BO f.gr=[]:=by rw[hg];rfl
 rw[AN];unfold Ju isF
 by_cases h1:0<=f.sp/\f.sp<=20
 ·rw[decide_eq_true h1]at c1 ⊢
  by_cases h2:f.pr.length<=60
  ·have q:¬(60:Int)<(f.pr.length:Int):=by omega
   rw[decide_eq_true h2];refine' Gj @Aj @Ao q m;repeat' first|(refine' BJ;(first|refine AF c1 ?_)<;>refine' Gj @Aj @Ao q m)|refine' BI|done
   all_goals try exact BL
   refine BN (α:=Nat) (l0:=?l3) (m0:=?m3) (fun x=>[(3,.d (.int .i64 (x:Int)))]) (fun x=>[]) (fun x=>x<=f.pr.length/\∀j,j<x->R9 f.pr 0 (f.d.size-1) j=true) (fun x=>f.pr.length-x) 0 ?h03 ?he3 ?he23 ?hI3 ?step3
   case h03=>(simp -implicitDefEqProofs only[go_sem,m];rfl)
   case he3=>rfl
   case he23=>rfl
   case' step3=>(rintro i R;try dsimp only at R)
   case' hI3=>try dsimp only
   ·exact⟨by omega,fun j M=>by omega⟩
   ·obtain⟨X,S⟩:=R
    by_cases hi:i<f.pr.length
    ·have l:(i:Int)<(f.pr.length:Int):=by omega
     have z:=HE (i:=i) (by omega);obtain⟨x,hx⟩:∃x,f.pr[i]?.getD 0=x:=⟨_,rfl⟩
     have c2:=Px f.d h x;rw[Aw,AX]at c2;have u:R9 f.pr 0 (f.d.size-1) i=((decide (0<=x) && decide (x<=f.d.size-1)) && (decide (i=0) || decide (f.pr[i-1]?.getD 0<x))):=by rw[←hx];rfl
     by_cases t:0<=x/\x<=f.d.size-1
     ·rw[show Oe x 0 (f.d.size-1)=true from Ft.2 t]at c2;rw[decide_eq_true t.1,decide_eq_true t.2]at u
      by_cases h0:0<i
      ·have p:(0:Int)<(i:Int):=by omega
       have hd:¬i=0:=by omega
       have J:IntKind.i64.wrap ((i:Int)-1)=((i-1:Nat):Int):=by rw[Am _ (by omega)];omega
       have r:i-1<f.pr.length:=by omega
       obtain⟨y,A⟩:∃y,f.pr[i-1]?.getD 0=y:=⟨_,rfl⟩
       rw[A,decide_eq_false hd]at u
       by_cases G:y<x
       ·have n:¬x<=y:=by omega
        rw[decide_eq_true G]at u
        have o:∀j,j<i+1->R9 f.pr 0 (f.d.size-1) j=true:=fun j M=>by
         by_cases e:j=i
         ·rw[e,u];simp
         ·exact S j (by omega)
        refine' EP @Aj @Ao l hi r hx A (aI p (aI J (aI z n)));repeat' first|(refine' BJ;(first|refine AF c2 ?_)<;>refine' EP @Aj @Ao l hi r hx A (aI p (aI J (aI z n))))|refine' BI|done
        all_goals first|omega|rfl|exact .inl True.intro|exact o _ (by assumption)
       ·have n:x<=y:=by omega
        rw[decide_eq_false G]at u;rw[Zl hi (by rw[u];simp)];refine' EP @Aj @Ao l hi r hx A (aI p (aI J (aI z n)));repeat' first|(refine' BJ;(first|refine AF c2 ?_)<;>refine' EP @Aj @Ao l hi r hx A (aI p (aI J (aI z n))))|refine' BI|done
        all_goals first|omega|rfl|exact .inl True.intro
      ·have p:¬(0:Int)<(i:Int):=by omega
       have hd:i=0:=by omega
       rw[decide_eq_true hd]at u
       have o:∀j,j<i+1->R9 f.pr 0 (f.d.size-1) j=true:=fun j M=>by
        rw[show j=i by omega,u];simp
       refine' mt @Aj @Ao l hi hx p z;repeat' first|(refine' BJ;(first|refine AF c2 ?_)<;>refine' mt @Aj @Ao l hi hx p z)|refine' BI|done
       all_goals first|omega|rfl|exact .inl True.intro|exact o _ (by assumption)
     ·rw[show Oe x 0 (f.d.size-1)=false from by rw[←Bool.not_eq_true,Ft];exact t]at c2
      have B:R9 f.pr 0 (f.d.size-1) i=false:=by
       rw[u]
       have:(decide (0<=x) && decide (x<=f.d.size-1))=false:=by
        rw[Bool.and_eq_false_iff,decide_eq_false_iff_not,decide_eq_false_iff_not];omega
       rw[this];simp
      rw[Zl hi B];refine' QX @Aj @Ao l hi hx z;repeat' first|(refine' BJ;(first|refine AF c2 ?_)<;>refine' QX @Aj @Ao l hi hx z)|refine' BI|done
      all_goals first|omega|rfl|exact .inl True.intro
    ·have l:¬(i:Int)<(f.pr.length:Int):=by omega
     have o:US f.pr 0 (f.d.size-1)=true:=jJ fun j M=>S j (by omega)
     rw[o];refine' Ta @Aj @Ao l m
     all_goals try exact BL
     have O:¬(0:Int)<((0:Nat):Int):=by omega
     refine BN (α:=Int) (l0:=?l4) (m0:=?m4) (fun x=>[(4,.d (.int .i64 x))]) (fun x=>[]) (fun x=>0<=x/\x<=0) (fun x=>(1-x).toNat) 0 ?h04 ?he4 ?he24 ?hI4 ?step4
     case h04=>(simp -implicitDefEqProofs only[go_sem,m];rfl)
     case he4=>rfl
     case he24=>rfl
     case' step4=>(rintro k L;try dsimp only at L)
     case' hI4=>try dsimp only
     ·exact⟨by omega,by omega⟩
     ·have N:k=0:=by omega
      subst N;refine' Ta @Aj @Ao m O
      all_goals first|omega|rfl
  ·have q:(60:Int)<(f.pr.length:Int):=by omega
   rw[decide_eq_false h2];refine' Gj @Aj @Ao q m;repeat' first|(refine' BJ;(first|refine AF c1 ?_)<;>refine' Gj @Aj @Ao q m)|refine' BI|done
   all_goals first|omega|rfl
 ·rw[decide_eq_false h1]at c1 ⊢;refine' FA @Aj @Ao m;repeat' first|(refine' BJ;(first|refine AF c1 ?_)<;>refine' FA @Aj @Ao m)|refine' BI|done
  all_goals first|omega|rfl
theorem T7(f:B9)(hg:f.gr=[]):BU E0 Pb [HX f] (.int .i64 (dS f)):=by
 refine AL UG AR (by simp) fun i=>?_
 have c1:=L_ f.d;unfold AQ.check at c1;rw[Aw,AX]at c1;have e:BO f.gr=[]:=by rw[hg];rfl
 have h:=T6 f.ng;rw[AN];unfold NM dS
 cases hd:f.d.ok with
 |false =>
  rw[hd]at c1;refine' FS @Aj @Ao;repeat' first|(refine' BJ;(first|refine AF c1 ?_)<;>refine' FS @Aj @Ao)|refine' BI|done
  all_goals first|omega|rfl
 |true =>
  rw[hd]at c1;have c2:=Pv f hd hg;obtain⟨b,hb⟩:∃b,isF f=b:=⟨_,rfl⟩
  rw[hb]at c2 ⊢;rw[Aj,Ao,e]at c2
  cases b<;>(refine' FA @Aj @Ao e;repeat' first|(refine' BJ;(first|refine AF c1 ?_|refine AF c2 ?_|refine AF h ?_)<;>refine' FA @Aj @Ao e)|refine' BI|done)<;>first|omega|rfl
end
section
theorem oO{E:CW}{f:FuncId}{ds:List D}{ety es:Nat}{nl:Bool}{l:List D}(h:mf E f ds ety es nl l):BU E f ds (.list nl l):=fun w fb vs i hg hl hd =>
 (h w fb vs i hg hl hd).mono fun e w' hh=>by
  obtain⟨v,m,hb,hv,a,b,⟨rfl,rfl⟩,hr⟩:=hh;exact⟨v,m,hb,Cq (hr.mono (Aq.refl _ _) (fun b _ hh=>.inl hh) fun _ _ _=>rfl) fun b hb j=>by have:=hv b hb;have:=i b j;omega⟩
theorem Hl:BA E0.P FU=true:=by kernel_rfl
attribute [local irreducible] IntKind.wrap Ah Option.getD and or
theorem Wc(nl:Bool)(l:List Zp)(hl:l.length<=1000)(e:nl=true->l=[]):BU E0 EF [.list nl (HF l)] (.list (nl && l.isEmpty) (HF l)):=by
 refine AL GP AR (by simp) fun h=>?_
 rw[AN];unfold D1
 cases nl with
 |true =>
  rw[e rfl,show HF []=[] from rfl];refine' FP
  all_goals first|rfl|(simp;done)|skip
 |false =>
  refine' MX @Ai @Bm
  all_goals first|omega|rfl|(simp;done)|(rename_i hx;rw[hx])|skip
theorem Wd(nl:Bool)(l:List Int)(hl:l.length<=1000)(e:nl=true->l=[]):BU E0 CC [.list nl (Ad l)] (.list (nl && l.isEmpty) (Ad l)):=by
 refine AL CT AR (by simp) fun h=>?_
 rw[AN];unfold B7
 cases nl with
 |true =>
  rw[e rfl,show Ad []=[] from rfl];refine' FP
  all_goals first|rfl|(simp;done)|skip
 |false =>
  refine' FP
  all_goals first|omega|rfl|(simp;done)|(rename_i hx;rw[hx];rfl)|skip
def B9.gro(f:B9)(l:List BK):B9:=⟨f.d,f.sp,f.np,f.pr,false,l⟩
theorem gX(f:B9)(e:f.d.zn=false)(m:f.d.zones.length<=100)(hp:f.np=true->f.pr=[])(j:f.pr.length<=100)(l:List BK) :
  BU E0 Mi [HX f,.list f.np (Ad f.pr),.list false (BO l)] (HX (f.gro l)):=by
 refine AL Ra AR (by simp) fun i=>?_
 have c1:=Wc f.d.zn f.d.zones (by omega) (by rw[e];exact fun h=>by cases h);have c2:=Wd f.np f.pr (by omega) hp;have e1:(f.d.zn && f.d.zones.isEmpty)=f.d.zn:=by rw[e];simp
 have e2:(f.np && f.pr.isEmpty)=f.np:=by
  cases h:f.np with
  |true=>rw[hp h];simp
  |false=>simp
 rw[e1]at c1;rw[e2]at c2;have hg:HX (f.gro l)=.agg [.int .i64 f.d.heads,.int .i64 f.d.turn,.list f.d.zn (HF f.d.zones),.int .i64 f.d.hskew,.int .i64 f.d.cskew,.int .i64 f.d.hlo,.int .i64 f.d.hhi,.int .i64 f.d.clo,.int .i64 f.d.chi,.int .i64 f.sp,.list f.np (Ad f.pr),.list false (BO l)]:=rfl;rw[hg];rw[AN];unfold Kk;refine' FS @Aj @Ao;repeat' first|(refine' BJ;(first|refine AF c1 ?_|refine AF c2 ?_)<;>refine' FS @Aj @Ao)|refine' BI|done
 all_goals first|rfl
theorem ki(f:B9)(h:f.Base)(hm:f.gr.any (fun x=>!E1 f x)=false)(hd:f.gr.Pairwise fun a b=>a.id≠b.id)(x:BK)(hx:E1 f x=false) :
  BU E0 Fn [HX f,.list false (BO [x])] (.tup [.agg [.int .i64 0,.int .i64 0,.list true [],.int .i64 0,.int .i64 0,.int .i64 0,.int .i64 0,.int .i64 0,.int .i64 0,.int .i64 0,.list true [],.list true []],.int .i64 30]):=by
 have c1:=EZ f h hd;have c2:=EZ (f.gro [x]) ⟨h.d,h.sp,h.pl,h.pr,by show(1:Nat)<=30;omega⟩ (List.pairwise_singleton ..);rw[hm,if_neg (by simp)]at c1
 have e:(f.gro [x]).gr.any (fun y=>!E1 (f.gro [x]) y)=true:=by
  show(!E1 (f.gro [x]) x || false)=true;rw[show E1 (f.gro [x]) x=E1 f x from rfl,hx];simp
 rw[e,if_pos rfl]at c2;rw[Aj,Ao]at c1;change BU E0 _ [.agg [.int .i64 f.d.heads,.int .i64 f.d.turn,.list f.d.zn (HF f.d.zones),.int .i64 f.d.hskew,.int .i64 f.d.cskew,.int .i64 f.d.hlo,.int .i64 f.d.hhi,.int .i64 f.d.clo,.int .i64 f.d.chi,.int .i64 f.sp,.list f.np (Ad f.pr),.list false (BO [x])]] _ at c2;refine AL K_ AR (by simp) fun i=>?_
 rw[AN];unfold H6;refine' FS @Aj @Ao;repeat' first|(refine' BJ;(first|refine AF c1 ?_|refine AF c2 ?_)<;>refine' FS @Aj @Ao)|refine' BI|done
 all_goals first|rfl
theorem pS(f:B9)(h:f.Base)(r:f.d.zn=false)(hp:f.np=true->f.pr=[])(hm:f.gr.any (fun x=>!E1 f x)=false)(x:BK)(hx:E1 f x=true)(z:f.gr.length<12)
  (hs:(f.gr++[x]).Pairwise fun a b=>a.id<b.id) :
  BU E0 Fn [HX f,.list false (BO [x])] (.tup [HX (f.gro (f.gr++[x])),.int .i64 0]):=by
 have hne:(f.gr++[x]).Pairwise fun a b=>a.id≠b.id:=hs.imp fun h=>by omega
 have hd:f.gr.Pairwise fun a b=>a.id≠b.id:=(List.pairwise_append.1 hne).1
 have c1:=EZ f h hd;have c2:=EZ (f.gro [x]) ⟨h.d,h.sp,h.pl,h.pr,by show(1:Nat)<=30;omega⟩ (List.pairwise_singleton ..);rw[hm,if_neg (by simp)]at c1
 have n:(f.gro [x]).gr.any (fun y=>!E1 (f.gro [x]) y)=false:=by
  show(!E1 (f.gro [x]) x || false)=false;rw[show E1 (f.gro [x]) x=E1 f x from rfl,hx];simp
 rw[n,if_neg (by simp)]at c2;rw[Aj,Ao]at c1;change BU E0 _ [.agg [.int .i64 f.d.heads,.int .i64 f.d.turn,.list f.d.zn (HF f.d.zones),.int .i64 f.d.hskew,.int .i64 f.d.cskew,.int .i64 f.d.hlo,.int .i64 f.d.hhi,.int .i64 f.d.clo,.int .i64 f.d.chi,.int .i64 f.sp,.list f.np (Ad f.pr),.list false (BO [x])]] _ at c2;have e:flat [(f.ng,f.gr),(false,[x])]=f.gr++[x]:=by simp[flat]
 have o:(f.gr++[x]).length=f.gr.length+1:=by simp
 have cC:=Nx false [(f.ng,f.gr),(false,[x])] (by simp) (by rw[e];omega) (by rw[e];exact hne);rw[e]at cC;change BU E0 _ [.list false [.list f.ng (BO f.gr),.list false (BO [x])]] _ at cC
 have j:∀y,y∈f.gr++[x]->0<=y.id/\y.id<=1000000:=fun y l=>by
  rcases List.mem_append.1 l with l|l
  ·have:=List.any_eq_false.1 hm y l;simp only[Bool.not_eq_true',Bool.not_eq_false]at this;have:=(HW.1 this).1;omega
  ·rw[List.mem_singleton]at l;subst l;have:=(HW.1 hx).1;omega
 have cS:=oO (MW (f.gr++[x]) (f.gr++[x]) (Nz (f.gr++[x])) (by omega) (by omega) j (.refl _) hs);have cK:=YA (f.gr++[x]) (by omega);have u:=FQ h.d;have q:=u.z2;have cO:=gX f r (by omega) hp (by have:=h.pl;omega) (f.gr++[x]);have i:=R1 (f.gr++[x]);obtain⟨M,A⟩:∃M,f.gr++[x]=M:=⟨_,rfl⟩
 rw[A]at cC cS cK cO i o ⊢;have m:¬(30:Int)<(M.length:Int):=by omega
 rw[Aj f,Ao f]at cO;obtain⟨R,B⟩:∃R,f7 (f.gro M)=R:=⟨_,rfl⟩
 have p:R.length=12:=by rw[←B];rfl
 refine AL K_ AR (by simp) fun t=>?_
 rw[AN];unfold H6;refine' Gj @Aj @Ao i m;repeat' first|(refine' BJ;(first|refine AF c1 ?_|refine AF c2 ?_|refine AF cC ?_|refine AF cK ?_|refine AF cS ?_|refine AF cO ?_)<;>refine' Gj @Aj @Ao i m)|refine' BI|done
 all_goals first|omega|rfl
theorem g8(f:B9)(p:Z1):Eg E0 FU (plV f p) [.ptr 900000 0 0] (plV f p) (.own 901000 0):=by
 rw[FF];refine BW O0 AR (by simp) (by simp[I_,CG,Cr,AY.isHist]) (by simp[Fh,Cr]) fun e h=>?_
 rw[Bh];unfold Iz;refine' FP
 all_goals first|rfl
theorem pZ(f:B9)(h:f.Base)(hm:f.gr.any (fun x=>!E1 f x)=false)(l:f.gr.length<=12)(hd:f.gr.Pairwise fun a b=>a.id≠b.id)
  (s1 s2:List BK) (o:s1.Perm f.gr) (e:s1.Pairwise fun a b=>a.id<b.id) (m:s2.Perm s1) (i:s2.Pairwise fun a b=>a.st<b.st) (j:∀n,n<=s2.length->xd f (HG f s2 n)) :
  BU E0 Pf [HX f,.fn FU []] (.tup [.list (HG f s2 s2.length).bl.isEmpty (Ad (HG f s2 s2.length).bl),.int .i64 0]):=by
 have cL:=xK f h hm l hd s1 s2 o e m i j;obtain⟨p,hp⟩:∃p,HG f s2 s2.length=p:=⟨_,rfl⟩
 rw[hp]at cL ⊢;have cB:=g8 f p;rw[Aj,Ao]at cL;simp only[y4]at cL;simp only[FF]at cB;refine AL UJ AR (by simp) fun q=>?_
 rw[AN];unfold NP;refine' FA @Aj @Ao @Hl;repeat' first|(refine' BJ;(first|refine B_ ([]) ([((24,0),(10,0)),((80,0),(10010,0)),((92,0),(20010,0)),((22,0),(30010,0))]) (cL) ?_)<;>refine' FA @Aj @Ao @Hl)|refine' BI|done
 refine' FA @Aj @Ao @Hl;repeat' first|(refine' BJ;(first|refine B_ ([((900000,0),(10,0)),((901000,0),(10010,0)),((902000,0),(20010,0)),((903000,0),(30010,0))]) ([((900000,0),(10,0)),((901000,0),(10010,0)),((902000,0),(20010,0)),((903000,0),(30010,0))]) (cB) ?_)<;>refine' FA @Aj @Ao @Hl)|refine' BI|done
 all_goals first|rfl
theorem g7(f:B9)(h:f.Base)(hm:f.gr.any (fun x=>!E1 f x)=false)(l:f.gr.length<=12)(hd:f.gr.Pairwise fun a b=>a.id≠b.id)
  (s1 s2:List BK) (o:s1.Perm f.gr) (e:s1.Pairwise fun a b=>a.id<b.id) (m:s2.Perm s1) (i:s2.Pairwise fun a b=>a.st<b.st) (j:∀n,n<=s2.length->xd f (HG f s2 n)) :
  BU E0 IB [HX f] (.tup [.int .i64 (HG f s2 s2.length).bl.length,.int .i64 0]):=by
 have cL:=pZ f h hm l hd s1 s2 o e m i j;obtain⟨p,hp⟩:∃p,HG f s2 s2.length=p:=⟨_,rfl⟩
 rw[hp,Aj,Ao]at cL;rw[hp];refine AL Rb AR (by simp) fun q=>?_
 rw[AN];unfold Kl;refine' FS @Aj @Ao;repeat' first|(refine' BJ;(first|refine AF cL ?_)<;>refine' FS @Aj @Ao)|refine' BI|done
 all_goals first|rfl
end
def NE(f:B9)(S:List Int):Nat->Z1
 |0=>N2 f
 |n+1=>MY f.d (NE f S n) (S[n]?.getD 0)
def Hv(S:List Int)(n:Nat):List BK:=(List.range n).map fun(k:Nat)=>⟨(k:Int),(k:Int),S[k]?.getD 0⟩
def Ic(f:B9)(ng:Bool)(S:List Int)(n:Nat):B9:=⟨f.d,f.sp,f.np,f.pr,ng,Hv S n⟩
theorem OY(f:B9)(ng:Bool)(S:List Int)(n:Nat):f7 (Ic f ng S n)=[.int .i64 f.d.heads,.int .i64 f.d.turn,.list f.d.zn (HF f.d.zones),.int .i64 f.d.hskew,.int .i64 f.d.cskew,.int .i64 f.d.hlo,.int .i64 f.d.hhi,.int .i64 f.d.clo,.int .i64 f.d.chi,.int .i64 f.sp,.list f.np (Ad f.pr),.list ng (BO (Hv S n))]:=rfl
theorem pK(S:List Int)(n:Nat):Hv S n++[⟨(n:Int),(n:Int),S[n]?.getD 0⟩]=Hv S (n+1):=by simp[Hv,List.range_succ]
theorem K0(S:List Int)(n:Nat):(Hv S n).length=n:=by simp[Hv]
theorem pM{S:List Int}{n k:Nat}(h:k<n):(Hv S n)[k]?.getD default=⟨(k:Int),(k:Int),S[k]?.getD 0⟩:=by simp[Hv,h]
theorem pL{S:List Int}{n:Nat}{x:BK}(h:x∈Hv S n):∃k:Nat,k<n/\x=⟨(k:Int),(k:Int),S[k]?.getD 0⟩:=by
 obtain⟨k,hk,rfl⟩:=List.mem_map.1 h;exact⟨k,List.mem_range.1 hk,rfl⟩
theorem Oa(S:List Int)(n:Nat):(Hv S n).Pairwise fun a b=>a.id<b.id/\a.st<b.st:=by
 unfold Hv;rw[List.pairwise_map];exact List.pairwise_lt_range.imp fun h=>⟨Int.ofNat_lt.2 h,Int.ofNat_lt.2 h⟩
theorem re(f:B9)(ng:Bool)(T:List Int)(m:Nat):N2 (Ic f ng T m)=N2 f:=by
 have h:∀n,TI (Ic f ng T m) n=TI f n:=fun n=>by
  induction n with
  |zero=>rfl
  |succ n ih=>rw[WC,WC,ih];rfl
 have h2:N2 (Ic f ng T m)=⟨TI (Ic f ng T m) f.d.zones.length,Wu f f.d.zones.length,f.pr.map fun x=>(x,1)⟩:=rfl;rw[h2,h];rfl
theorem Q5(f:B9)(ng:Bool)(S T:List Int)(m:Nat):∀n,n<=m->HG (Ic f ng T m) (Hv S m) n=NE f S n
 |0,_=>re f ng T m
 |n+1,h=>by
  rw[HG,Q5 f ng S T m n (by omega),pM (by omega),NE];rfl
theorem Uc{f:B9}{S:List Int}{n:Nat}(hn:n<=12)(h:∀k,k<n->0<=S[k]?.getD 0/\S[k]?.getD 0<f.d.size)(ng:Bool):(Ic f ng S n).gr.any (fun x=>!E1 (Ic f ng S n) x)=false:=by
 rw[List.any_eq_false];intro x hx;obtain⟨k,hk,rfl⟩:=pL hx;have:=h k hk;simp only[Bool.not_eq_true',Bool.not_eq_false];rw[HW];exact⟨⟨by show(0:Int)<=(k:Int);omega,by show(k:Int)<=99;omega⟩,⟨by show(0:Int)<=(k:Int);omega,by show(k:Int)<=9999;omega⟩,this.1,this.2⟩
theorem Qr{f:B9}(h:f.Base){S:List Int}:∀{n:Nat},(∀k,k<n->0<=S[k]?.getD 0)->zt f n (NE f S n)/\(NE f S n).bl.length=(N2 f).bl.length
 |0,_=>⟨vi h,rfl⟩
 |n+1,hs=>by
  obtain⟨h1,h2⟩:=Qr h (n:=n) (S:=S) fun k hk=>hs k (by omega)
  obtain⟨i,e,_⟩:=dR h1 (by have:=(FQ h.d).z1;omega) (S[n]?.getD 0) (hs n (by omega));exact⟨i,by rw[NE,e,h2]⟩
theorem OZ{f:B9}(h:f.Base)(ng:Bool)(S:List Int){n:Nat}(hn:n<=12):(Ic f ng S n).Base:=⟨h.d,h.sp,h.pl,h.pr,by show(Hv S n).length<=30;rw[K0];omega⟩
theorem bf{f:B9}(h:f.Base)(ng:Bool){S:List Int}{m:Nat}(hm:m<=12)(hs:∀k,k<m->0<=S[k]?.getD 0):∀n,n<=(Hv S m).length->xd (Ic f ng S m) (HG (Ic f ng S m) (Hv S m) n):=fun n hn=>by
 rw[K0]at hn;rw[Q5 f ng S S m n hn];obtain⟨h1,_⟩:=Qr h (n:=n) (S:=S) fun k hk=>hs k (by omega)
 have h2:=vg h1 (by omega);exact⟨h2.n,h2.bl,h2.ps,h2.cn,h2.srt,h2.len,h2.nl⟩
theorem ff(S:List Int)(n:Nat):(Hv S n).Pairwise fun a b=>a.id≠b.id:=(Oa S n).imp fun h=>by omega
theorem QU{f:B9}(h:f.Base)(ng:Bool){S:List Int}{n:Nat}(hn:n<=12)(hs:∀k,k<n->0<=S[k]?.getD 0/\S[k]?.getD 0<f.d.size)(b:Int) :
  BU E0 G7 [HX (Ic f ng S n),.int .i64 b] (.tup [.int .i64 (HS (NE f S n) b).1,.int .i64 (HS (NE f S n) b).2]):=by
 have c:=YK (Ic f ng S n) (OZ h ng S hn) (Uc hn hs ng) (by show(Hv S n).length<=12;rw[K0];exact hn) (ff S n) (Hv S n) (Hv S n) (.refl _) ((Oa S n).imp And.left) (.refl _) ((Oa S n).imp And.right) (bf h ng hn fun k hk=>(hs k hk).1) b;rw[K0,Q5 f ng S S n n (Nat.le_refl _)]at c;exact c
theorem dw{f:B9}(h:f.Base)(hg:f.gr=[]):BU E0 IB [HX f] (.tup [.int .i64 (N2 f).bl.length,.int .i64 0]):=by
 have e:Ic f f.ng [] 0=f:=by
  obtain⟨d,sp,np,pr,ng,gr⟩:=f;subst hg;rfl
 have c:=g7 (Ic f f.ng [] 0) (OZ h _ _ (by omega)) (Uc (by omega) (fun k hk=>by omega) _) (by show(0:Nat)<=12;omega) (ff _ _) (Hv [] 0) (Hv [] 0) (.refl _) ((Oa _ _).imp And.left) (.refl _) ((Oa _ _).imp And.right) (bf h _ (by omega) fun k hk=>by omega);rw[K0,Q5 f f.ng [] [] 0 0 (Nat.le_refl _),e]at c;exact c
theorem kj{f:B9}(h:f.Base)(i:f.d.zn=false)(hp:f.np=true->f.pr=[])(ng:Bool){S:List Int}{n:Nat}(hn:n<12)(hs:∀k,k<n->0<=S[k]?.getD 0/\S[k]?.getD 0<f.d.size)(hx:0<=S[n]?.getD 0/\S[n]?.getD 0<f.d.size) :
  BU E0 Fn [HX (Ic f ng S n),.list false (BO [⟨(n:Int),(n:Int),S[n]?.getD 0⟩])] (.tup [HX (Ic f false S (n+1)),.int .i64 0]):=by
 have c:=pS (Ic f ng S n) (OZ h ng S (by omega)) i hp (Uc (by omega) hs ng) ⟨(n:Int),(n:Int),S[n]?.getD 0⟩ (by
  rw[HW]
  exact⟨⟨by show(0:Int)<=(n:Int);omega,by show(n:Int)<=99;omega⟩,⟨by show(0:Int)<=(n:Int);omega,by show(n:Int)<=9999;omega⟩,hx.1,hx.2⟩) (by show(Hv S n).length<12;rw[K0];exact hn) (by
  show(Hv S n++_).Pairwise _
  rw[pK];exact(Oa S _).imp And.left)
 have e:(Ic f ng S n).gro ((Ic f ng S n).gr++[⟨(n:Int),(n:Int),S[n]?.getD 0⟩])=Ic f false S (n+1):=by
  show(Ic f ng S n).gro (Hv S n++_)=_;rw[pK];rfl
 rw[e]at c;exact c
theorem fP{f:B9}(h:f.Base)(ng:Bool){S:List Int}{n:Nat}(hn:n<12)(hs:∀k,k<n->0<=S[k]?.getD 0/\S[k]?.getD 0<f.d.size)(hx:¬(0<=S[n]?.getD 0/\S[n]?.getD 0<f.d.size)) :
  BU E0 Fn [HX (Ic f ng S n),.list false (BO [⟨(n:Int),(n:Int),S[n]?.getD 0⟩])] (.tup [.agg [.int .i64 0,.int .i64 0,.list true [],.int .i64 0,.int .i64 0,.int .i64 0,.int .i64 0,.int .i64 0,.int .i64 0,.int .i64 0,.list true [],.list true []],.int .i64 30]) :=
 ki (Ic f ng S n) (OZ h ng S (by omega)) (Uc (by omega) hs ng) (ff S n) _ (by
  rw[←Bool.not_eq_true,HW]
  exact fun h=>hx h.2.2)
end Go.Pw

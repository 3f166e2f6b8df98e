/- Part. -/
import Derived.Test.YtmdklgapccickaaGreatDoorMvPC
import Derived.Test.YtmdklgapccickaaGreatDoorCorrectSpec
set_option linter.all false
open List renaming getElem?_eq_getElem->aa,range->ck,findIdx?_eq_some_iff_getElem->cw,findIdx?_eq_none_iff->c8,length_replicate->ea,eq_nil_of_length_eq_zero->eb,getElem_of_mem->et,length_map->f0,getElem?_eq_none->hU,getElem_mem->hX,getElem?_map->hY,nil_append->i7
open Int renaming sub_zero->ax,zero_add->i5
open Option renaming getD->ay,getD_some->cp
open Nat renaming lt_succ_iff_lt_or_eq->az
open Go Go.Pw Go.Proofs
namespace Go.Pw
set_option maxRecDepth 100000
set_option maxHeartbeats 3200000
section
theorem xq(n:Nat):(Int.tmod (n:Int) 15)=((n%15:Nat):Int):=by rw[Int.tmod_eq_emod_of_nonneg (by omega)];omega
attribute [local irreducible] IntKind.wrap Ah ay and or
theorem FR(n:Nat)(hn:n<=1000000):BU E0 Mn [.int .i64 n] (.int .u8 ((gp n).val:Int)):=by
 refine AL Rg AR (by simp) fun e=>?_
 rw[AN];unfold Kq;refine' MX @xq @tV
 all_goals try exact BL
theorem O7(a:F):BU E0 GD [.int .u8 (a.val:Int)] (.int .u8 ((fi a).val:Int)):=by
 refine AL JE AR (by simp) fun h=>?_
 rw[AN];unfold Fv fi;have hl:=pc a;have hv:=YS a;have e:IntKind.i64.wrap (15-(lg a:Int))=((15-lg a:Nat):Int):=by rw[Am _ (by omega)];omega
 have c1:=FR (15-lg a) (by omega);refine' J6 e;repeat' first|(refine' BJ;(first|refine AF c1 ?_)<;>refine' J6 e)|refine' BI|done
 all_goals try exact BL
theorem ED(a b:F):BU E0 G8 [.int .u8 (a.val:Int),.int .u8 (b.val:Int)] (.int .u8 ((fm a b).val:Int)):=by
 refine AL KK AR (by simp) fun j=>?_
 rw[AN];unfold GU;have hl:=pc a;have l:=pc b;have hv:=YS a;have m:=YS b;have h:IntKind.i64.wrap ((lg a:Int)+(lg b:Int))=((lg a+lg b:Nat):Int):=by rw[Am _ (by omega)];omega
 have c1:=FR (lg a+lg b) (by omega)
 by_cases e:a=0
 ·subst e;refine' HM @DM
  all_goals first|rfl|(simp at *;done)
 ·by_cases hb:b=0
  ·subst hb;refine' MX @Eu e
   all_goals first|rfl|(simp at *;done)
  ·have i:fm a b=gp (lg a+lg b):=by unfold fm;rw[if_neg (by simp[e,hb])]
   refine' Gj h e hb i;repeat' first|(refine' BJ;(first|refine AF c1 ?_)<;>refine' Gj h e hb i)|refine' BI|done
   all_goals try exact BL
   all_goals first|rfl|(simp at *;done)
end
section
def Ze(L P:Nat):D:=.agg [.int .i64 L,.int .i64 P]
theorem DC(L P:Nat):Ze L P=.agg [.int .i64 L,.int .i64 P]:=rfl
attribute [local irreducible] IntKind.wrap Ah ay and or
theorem JK(L P i j:Nat)(o:L<=100)(hi:i<=100)(n:j<L):BU E0 HP [Ze L P,.int .i64 i,.int .i64 j] (.int .u8 ((gp (i*(L-1-j))).val:Int)):=by
 refine AL LA AR (by simp) fun m=>?_
 rw[AN];unfold Gq;have hb:i*(L-1-j)<=100*100:=Nat.mul_le_mul hi (by omega);have e:IntKind.i64.wrap ((L:Int)-1)=((L-1:Nat):Int):=by rw[Am _ (by omega)];omega
 have h:IntKind.i64.wrap (((L-1:Nat):Int)-(j:Int))=((L-1-j:Nat):Int):=by rw[Am _ (by omega)];omega
 have l:IntKind.i64.wrap ((i:Int)*((L-1-j:Nat):Int))=((i*(L-1-j):Nat):Int):=by rw[←Int.natCast_mul,Am _ (by omega)]
 have c1:=FR (i*(L-1-j)) (by omega);refine' Gj @DC e h l;repeat' first|(refine' BJ;(first|refine AF c1 ?_)<;>refine' Gj @DC e h l)|refine' BI|done
 all_goals try exact BL
end
section
def JN(L P:Int):Bool:=decide (2<=L/\L<=15/\1<=P/\P<=8/\P<L)
def ST(n:Int):Bool:=decide (0<=n/\n<=15)
def FL(l:List Int)(m:Int):Bool:=decide ((l.length:Int)=m) && l.all ST
def uR(l:List Int)(m:Int)(i:Nat):Bool:=decide (0<=l[i]?.getD 0/\l[i]?.getD 0<m/\(0<i->l[i-1]?.getD 0<l[i]?.getD 0))
def Gu(l:List Int)(m:Int):Bool:=(ck l.length).all (uR l m)
theorem pU{l:List Int}{m:Int}{i:Nat}(hi:i<l.length)(h:uR l m i=false):Gu l m=false:=by
 unfold Gu;rw[List.all_eq_false];exact⟨i,by simpa using hi,by simp[h]⟩
theorem Xr{l:List Int}{m:Int}(h:∀i,i<l.length->uR l m i=true):Gu l m=true:=by
 unfold Gu;rw[List.all_eq_true];intro i hi;exact h i (by simpa using hi)
def xS(l:List Int)(n:Int):Bool:=l.contains n
theorem zC{l:List Int}{n:Int}(h:∀i,i<l.length->l[i]?.getD 0≠n):xS l n=false:=by
 unfold xS;rw[List.contains_eq_any_beq,List.any_eq_false];intro x hx;obtain⟨i,hi,rfl⟩:=et hx;have:=h i hi;rw[aa hi]at this;simpa using fun e=>this e.symm
theorem ut{l:List Int}{n:Int}{i:Nat}(hi:i<l.length)(h:l[i]?.getD 0=n):xS l n=true:=by
 unfold xS;rw[List.contains_iff_mem,←h,aa hi];simp
theorem AAC:∀a:F,IntKind.u8.wrap (a.val:Int)=(a.val:Int):=by decide +kernel
theorem xf:∀a:F,IntKind.i64.wrap (a.val:Int)=(a.val:Int):=by decide +kernel
attribute [local irreducible] IntKind.wrap Ah ay and or
theorem Kb(n lo hi:Int):BU E0 OA [.int .i64 n,.int .i64 lo,.int .i64 hi] (.bool (decide (lo<=n/\n<=hi))):=by
 refine AL Sw AR (by simp) fun e=>?_
 rw[AN];unfold MF;refine' FP
 all_goals first|omega|(simp_all;done)|(simp_all;omega)
theorem Ru(L P:Int):BU E0 Mo [.agg [.int .i64 L,.int .i64 P]] (.int .i64 (if JN L P then 0 else 50)):=by
 refine AL Ri AR (by simp) fun e=>?_
 rw[AN];unfold Ks JN;refine' FP
 all_goals first|omega|(simp_all;done)|(simp_all;omega)|grind
theorem T4(L P:Int):BU E0 PY [.agg [.int .i64 L,.int .i64 P]] (.int .i64 (if JN L P then 0 else 50)):=by
 refine AL UD AR (by simp) fun e=>?_
 rw[AN];unfold NJ JN;have c1:=Kb;refine' Fp;repeat' first|(refine' BJ;(first|refine AF (c1 _ _ _) ?_)<;>refine' Fp)|refine' BI|done
 all_goals first|omega|(simp_all;done)|(simp_all;omega)|grind
theorem Rt(n:Int):BU E0 E7 [.int .i64 n] (.bool (!ST n)):=by
 refine AL Rh AR (by simp) fun e=>?_
 rw[AN];unfold Kr ST;refine' FP
 all_goals first|omega|(simp_all;done)|(simp_all;omega)|grind
theorem gj:BA E0.P E7=true:=by kernel_rfl
theorem R5:BA E0.P De=true:=by kernel_rfl
theorem SB(nl:Bool)(xs:List Int)(f:FuncId)(cs:List D)(p:Int->Bool)(hb:BA E0.P f=true)(o:Ax AV.toD1 (cs.map .d)=some cs)(h:∀x,x∈xs->BU E0 f (.int .i64 x::cs) (.bool (p x))) :
  BU E0 Dr [.list nl (Ad xs),.fn f cs] (.int .i64 (match xs.findIdx? p with|some i=>i|none=>-1)):=by
 refine AL E5 AR (by simp) fun n=>?_
 simp only[Eo,Dv,Du,Da,FE,FD,HI,FC,Bj,B0,B1,Dw,CO,f0,Bq,true_and,and_true]at n;rw[AN];unfold Db;simp -implicitDefEqProofs only[go_sem];refine AZ (α:=Int) (fun x=>[(8,.d (.int .i64 x))]) (fun x=>[]) (fun x=>0<=x/\x<=xs.length/\∀(j:Nat) (e:j<xs.length),(j:Int)<x->p xs[j]=false) (fun x=>(xs.length-x).toNat) ?a1_0 ?hI1 ?step1
 case' step1=>(rintro i l;try dsimp only at l)
 case' hI1=>try dsimp only
 ·simp;omega
 ·refine' FP
  all_goals try exact BL
  ·have hx:xs[i.toNat]?.getD 0=xs[i.toNat]'(by omega):=by rw[aa (by omega),cp]
   rw[hx];refine Zg (h _ (hX _)) (J8 rfl o) (fun hp=>?_) (fun hp=>?_)
   ·simp -implicitDefEqProofs only[go_sem];have:xs.findIdx? p=some i.toNat:=by rw[cw];exact⟨by omega,hp,fun j e=>by simp[l.2.2 j (by omega) (by omega)]⟩
    rw[this];simp;omega
   ·refine' FP
    all_goals try exact BL
    rename_i j e q
    by_cases m:j=i.toNat
    ·subst m;exact hp
    ·exact l.2.2 j e (by omega)
  ·have:xs.findIdx? p=none:=by
    rw[c8];intro x hx;obtain⟨j,e,rfl⟩:=et hx;exact l.2.2 j e (by omega)
   rw[this]
theorem OS(nl:Bool)(xs:List Int)(f:FuncId)(cs:List D)(p:Int->Bool)(hb:BA E0.P f=true)(e:Ax AV.toD1 (cs.map .d)=some cs)(h:∀x,x∈xs->BU E0 f (.int .i64 x::cs) (.bool (p x))) :
  BU E0 CM [.list nl (Ad xs),.fn f cs] (.bool (xs.any p)):=by
 refine AL EO AR (by simp) fun j=>?_
 rw[AN];unfold C6;simp -implicitDefEqProofs only[go_sem];refine IA (SB nl xs f cs p hb e h) rfl ?_;simp -implicitDefEqProofs only[go_sem]
 have key:(0:Int)<=(match xs.findIdx? p with|some i=>(i:Int)|none=>-1)↔xs.any p=true:=by
  cases hf:xs.findIdx? p with
  |none=>rw[c8]at hf;simp;intro x hx;simp[hf x hx]
  |some i=>rw[cw]at hf;simp;exact⟨_,hX hf.1,hf.2.1⟩
 grind
theorem wq(xs:List Int)(p:Int->Bool):(!xs.any fun n=>!p n)=xs.all p:=by
 rw[List.all_eq_not_any_not]
theorem UP(nl:Bool)(xs:List Int)(m:Int):BU E0 Ph [.list nl (Ad xs),.int .i64 m] (.bool (FL xs m)):=by
 refine AL UL AR (by simp) fun h=>?_
 rw[AN];unfold NR
 have c1:BU E0 CM [.list nl (Ad xs),.fn E7 []] (.bool (xs.any fun n=>!ST n)) :=
  OS nl xs E7 [] (fun n=>!ST n) gj rfl fun x _=>Rt x
 have e:=wq xs ST
 by_cases hm:(xs.length:Int)=m
 ·have hs:FL xs m=xs.all ST:=by unfold FL;simp[hm]
  rw[hs]
  cases hx:xs.any fun n=>!ST n with
  |true =>
   rw[hx]at c1 e;refine' J6 hm;repeat' first|(refine' BJ;(first|refine AF c1 ?_)<;>refine' J6 hm)|refine' BI|done
   all_goals first|(rw[←e];done)|(rw[←e];rfl)|(simp at *;done)|omega
  |false =>
   rw[hx]at c1 e;refine' J6 hm;repeat' first|(refine' BJ;(first|refine AF c1 ?_)<;>refine' J6 hm)|refine' BI|done
   all_goals first|(rw[←e];done)|(rw[←e];rfl)|(simp at *;done)|omega
 ·have hs:FL xs m=false:=by unfold FL;simp[hm]
  rw[hs];refine' HM hm
  all_goals first|rfl|(simp at *;done)|omega
theorem QF(nl:Bool)(xs:List Int)(m:Int):BU E0 LP [.list nl (Ad xs),.int .i64 m] (.bool (Gu xs m)):=by
  refine AL QA AR (by simp) fun u=>?_
  simp only[Eo,Dv,Du,Da,FE,FD,HI,FC,Bj,B0,B1,Dw,CO,f0,Bq,true_and,and_true]at u;rw[AN];unfold Jx;refine' FP;refine AZ (α:=Nat) (fun x=>[(9,.d (.int .i64 (x:Int)))]) (fun x=>[]) (fun x=>x<=xs.length/\∀j,j<x->uR xs m j=true) (fun x=>xs.length-x) 0 ?hI2 ?step2
  case' step2=>(rintro i y;try dsimp only at y)
  case' hI2=>try dsimp only
  · exact⟨by omega,fun j l=>absurd l (by omega)⟩
  · obtain⟨h1,h2⟩:=y
    by_cases h:i<xs.length
    · have h':(i:Int)<(xs.length:Int):=by omega
      have r:=HE (i:=i) (by omega)
      cases hb:uR xs m i with
      |true =>
        have n:=hb;unfold uR at n;simp only[decide_eq_true_eq]at n;obtain⟨k1,k2,z⟩:=n;have p:¬xs[i]?.getD 0<0:=by omega
        have t:¬m<=xs[i]?.getD 0:=by omega
        by_cases h0:0<i
        · have e:(0:Int)<(i:Int):=by omega
          have A:=z h0;have q:¬xs[i]?.getD 0<=xs[i-1]?.getD 0:=by omega
          have o:IntKind.i64.wrap ((i:Int)-1)=((i-1:Nat):Int):=by rw[Am _ (by omega)];omega
          refine' mA7 h' r o p t e q
          all_goals try exact BL
          all_goals first
            |(
               rename_i j l;rcases az.1 l with l|rfl
               · exact h2 j l
               · exact hb)
            |(simp at *;done)|(simp at *;omega)|skip
        · have e:¬(0:Int)<(i:Int):=by omega
          refine' bq h' r p t e
          all_goals try exact BL
          all_goals first
            |(
               rename_i j l;rcases az.1 l with l|rfl
               · exact h2 j l
               · exact hb)
            |(simp at *;done)|(simp at *;omega)|skip
      |false =>
        have hs:=pU h hb;unfold uR at hb;simp only[decide_eq_false_iff_not]at hb;have o:0<i->IntKind.i64.wrap ((i:Int)-1)=((i-1:Nat):Int):=fun _=>by rw[Am _ (by omega)];omega
        by_cases p:xs[i]?.getD 0<0
        · refine' Ta h' r p hs
          all_goals try exact BL
        · by_cases t:m<=xs[i]?.getD 0
          · refine' bq h' r p t hs
            all_goals try exact BL
          · have h0:0<i:=by
              by_cases h0:0<i
              · exact h0
              · exact absurd ⟨by omega,by omega,fun h=>absurd h h0⟩ hb
            have e:(0:Int)<(i:Int):=by omega
            have q:xs[i]?.getD 0<=xs[i-1]?.getD 0:=by
              by_cases q:xs[i]?.getD 0<=xs[i-1]?.getD 0
              · exact q
              · exact absurd ⟨by omega,by omega,fun h=>by omega⟩ hb
            refine' P4 h' r (o h0) p t e q hs
            all_goals try exact BL
            all_goals first|(simp at *;done)|(simp at *;omega)|skip
    · have h':¬(i:Int)<(xs.length:Int):=by omega
      have hs:Gu xs m=true:=Xr fun j l=>h2 j (by omega)
      refine' MX h' hs
      all_goals try exact BL
end
section
def ni(l:List Nat):List Int:=l.map fun n:Nat=>(n:Int)
theorem P3(l:List Nat):(ni l).length=l.length:=by simp[ni]
theorem yp(l:List Nat)(i:Nat):(ni l)[i]?.getD 0=((l[i]?.getD 0:Nat):Int):=by
 unfold ni;rw[hY];cases l[i]?<;>rfl
theorem uG(l:List Nat)(n:Nat):ni l++[(n:Int)]=ni (l++[n]):=by simp[ni]
theorem pG(l k:List Nat):ni l++ni k=ni (l++k):=by simp[ni]
theorem pF(l:List Nat):(ni l).isEmpty=l.isEmpty:=by cases l<;>rfl
attribute [go_sem] P3 yp uG pG pF
attribute [local irreducible] IntKind.wrap Ah ay and or
theorem XE(nl:Bool)(xs:List Int)(n:Int):∃r:Int,(decide (0<=r)=xS xs n)/\BU E0 Ex [.list nl (Ad xs),.int .i64 n] (.int .i64 r):=by
  obtain⟨r,hr⟩:∃r:Int,r=match xs.findIdx? (fun x=>decide (n=x))with|some i=>(i:Int)|none=>-1:=⟨_,rfl⟩
  refine⟨r,?_,?_⟩
  · rw[hr]
    cases hf:xs.findIdx? (fun x=>decide (n=x))with
    |none =>
      rw[c8]at hf;rw[zC fun i hi h=>?_]
      · rfl
      · have:=hf (xs[i]?.getD 0) (by rw[aa hi];simp)
        simp[h]at this
    |some i =>
      rw[cw]at hf;have:=hf.2.1;have hx:n=xs[i]'hf.1:=by simpa using this
      rw[ut hf.1 (by rw[aa hf.1,cp];exact hx.symm)];simp
  · refine AL GA AR (by simp) fun o=>?_
    simp only[Eo,Dv,Du,Da,FE,FD,HI,FC,Bj,B0,B1,Dw,CO,f0,Bq,true_and,and_true]at o;rw[AN];unfold EW;refine' FP;refine AZ (α:=Nat) (fun x=>[(8,.d (.int .i64 (x:Int)))]) (fun x=>[]) (fun x=>x<=xs.length/\∀j,j<x->xs[j]?.getD 0≠n) (fun x=>xs.length-x) 0 ?hI1 ?step1
    case' step1=>(rintro i p;try dsimp only at p)
    case' hI1=>try dsimp only
    · exact⟨by omega,fun j l=>absurd l (by omega)⟩
    · obtain⟨h1,h2⟩:=p
      by_cases h:i<xs.length
      · have h':(i:Int)<(xs.length:Int):=by omega
        have m:=HE (i:=i) (by omega)
        by_cases hb:n=xs[i]?.getD 0
        · have hi:r=(i:Int):=by
            rw[hr]
            have:xs.findIdx? (fun x=>decide (n=x))=some i:=by
              rw[cw];refine⟨h,?_,fun j l=>?_⟩
              · rw[aa h]at hb;simpa using hb
              · have:=h2 j l
                rw[aa (by omega),cp]at this;simpa using fun e=>this e.symm
            rw[this]
          rw[hi];have q:=hb
          (try(simp -implicitDefEqProofs only[go_sem,h',m,←hb]));repeat' first|(with_reducible first|exact tI|refine aI ?_ ?_|intro _)|((first|with_reducible refine GK ?_ ?_<;>intro _)<;>try(simp -implicitDefEqProofs only[go_sem,h',m,←hb]))|simp (disch:=omega)only[Jb]|((with_reducible refine fY ?_);refine⟨_,rfl,?_,?_⟩)
          all_goals try exact BL
        · refine' LV h' m hb
          all_goals try exact BL
          all_goals first
            |(
               rename_i j l;rcases az.1 l with l|rfl
               · exact h2 j l
               · exact fun e=>hb e.symm)
            |skip
      · have h':¬(i:Int)<(xs.length:Int):=by omega
        have hi:r=-1:=by
          rw[hr]
          have:xs.findIdx? (fun x=>decide (n=x))=none:=by
            rw[c8];intro x hx;obtain⟨j,l,rfl⟩:=et hx;have:=h2 j (by omega);rw[aa l,cp]at this;simpa using fun e=>this e.symm
          rw[this]
        rw[hi];refine' HM h'
        all_goals try exact BL
theorem TL(nl:Bool)(xs:List Int)(n:Int):BU E0 Fz [.list nl (Ad xs),.int .i64 n] (.bool (xS xs n)):=by
 refine AL Ig AR (by simp) fun e=>?_
 obtain⟨r,hr,c1⟩:=XE nl xs n;rw[AN];unfold Fd;rw[←hr]
 by_cases h:0<=r
 ·refine' J6 h;repeat' first|(refine' BJ;(first|refine AF c1 ?_)<;>refine' J6 h)|refine' BI|done
  all_goals first|rfl|(simp at *;done)|(simp[h])
 ·refine' J6 h;repeat' first|(refine' BJ;(first|refine AF c1 ?_)<;>refine' J6 h)|refine' BI|done
  all_goals first|rfl|(simp at *;done)|(simp[h])
end
section
theorem dD{α:Type}(w:List α)(x:α):(w++[x]).isEmpty=false:=by cases w<;>rfl
attribute [local irreducible] IntKind.wrap Ah ay and or
theorem KT(nl:Bool)(xs:List F)(hl:xs.length<=1000)(hne:0<xs.length)(e:nl=false):Eg E0 Ci [] [.d (.list nl (us xs))] [(7,1,.row 180 1 false (us xs))] (.own 7 1):=by
 subst e;refine BW EK AR (by simp) (by simp[I_,CG,Cr]) (by simp[Fh]) fun i j=>?_
 rw[Bh];unfold CX;have hn:¬xs=[]:=by intro h;rw[h]at hne;simp at hne
 refine' HM hn
 all_goals first|omega|rfl
end
section
theorem AAp:(0:Int)<((2:Nat):Int):=by decide
theorem AAo:(1:Int)<((2:Nat):Int):=by decide
theorem T8:¬(2:Int)<((2:Nat):Int):=by decide
theorem jU:IntKind.i64.wrap 0=0:=by decide
theorem jT:IntKind.i64.wrap (0-((0:Nat):Int))=0:=by decide
theorem Ua{α:Type}(n:Nat)(x:α)(h:0<n):(List.replicate n x).isEmpty=false:=by cases n with
 |zero=>omega
 |succ n=>rfl
attribute [local irreducible] IntKind.wrap Ah ay and or
theorem Zz(n:Nat)(hn:0<n)(hl:n<=1000000):Eg E0 Dz [] [.d (.list true []),.d (.int .i64 n)] [(22,2,.row 3 1 false [])] (.own 22 2):=by
 refine BW Gb AR (by simp) (by simp[I_,CG,Cr]) (by simp[Fh]) fun i j=>?_
 rw[Bh];unfold Er;have h0:¬(n:Int)<0:=by omega
 have h1:(0:Int)<(n:Int):=by omega
 have h:IntKind.i64.wrap (n:Int)=(n:Int):=Am _ (by omega);have e:IntKind.i64.wrap ((n:Int)-0)=(n:Int):=by rw[ax];exact h
 (try(simp -implicitDefEqProofs only[go_sem,h0,h1,h,Ua n _ hn,ea,jU,jT,e,ax]));repeat' first|(with_reducible first|exact tI|refine aI ?_ ?_|intro _)|((first|with_reducible refine GK ?_ ?_<;>intro _)<;>try(simp -implicitDefEqProofs only[go_sem,h0,h1,h,Ua n _ hn,ea,jU,jT,e,ax]))|simp (disch:=omega)only[Jb]
 all_goals first|omega|rfl|(simp at *;done)|skip
theorem Z0:BU E0 Dz [.list true [],.int .i64 0] (.list true []):=by
 refine AL Gb AR (by simp) fun e=>?_
 rw[AN];unfold Er;refine' LV @jU @jT @ax
 all_goals first|omega|rfl|(simp at *;done)|skip
theorem Zx(n:Nat)(hn:0<n)(hl:n<=1000000):Eg E0 BP [] [.d (.list true []),.d (.int .i64 n)] [(22,2,.row 180 1 false [])] (.own 22 2):=by
 refine BW CZ AR (by simp) (by simp[I_,CG,Cr]) (by simp[Fh]) fun i j=>?_
 rw[Bh];unfold Bp;have h0:¬(n:Int)<0:=by omega
 have h1:(0:Int)<(n:Int):=by omega
 have h:IntKind.i64.wrap (n:Int)=(n:Int):=Am _ (by omega);have e:IntKind.i64.wrap ((n:Int)-0)=(n:Int):=by rw[ax];exact h
 (try(simp -implicitDefEqProofs only[go_sem,h0,h1,h,Ua n _ hn,ea,jU,jT,e,ax]));repeat' first|(with_reducible first|exact tI|refine aI ?_ ?_|intro _)|((first|with_reducible refine GK ?_ ?_<;>intro _)<;>try(simp -implicitDefEqProofs only[go_sem,h0,h1,h,Ua n _ hn,ea,jU,jT,e,ax]))|simp (disch:=omega)only[Jb]
 all_goals first|omega|rfl|(simp at *;done)|skip
theorem Zy:BU E0 BP [.list true [],.int .i64 0] (.list true []):=by
 refine AL CZ AR (by simp) fun e=>?_
 rw[AN];unfold Bp;refine' LV @jU @jT @ax
 all_goals first|omega|rfl|(simp at *;done)|skip
theorem Wb(n1 n2:Bool)(a b:List Int)(z:a.length<=100000)(hb:b.length<=100000):BU E0 Gf [.list false [.list n1 (Ad a),.list n2 (Ad b)]] (.list (a++b).isEmpty (Ad (a++b))):=by
 refine AL Jh AR (by simp) fun u=>?_
 rw[AN];unfold F6;have r:IntKind.i64.wrap (0+(a.length:Int))=(a.length:Int):=by rw[i5];exact Am _ (by omega)
 have m:IntKind.i64.wrap ((a.length:Int)+(b.length:Int))=((a.length+b.length:Nat):Int):=by rw[Am _ (by omega)];omega
 have e:IntKind.i64.wrap (0+1)=1:=by rw[Am _ (by omega)];rfl
 have h:IntKind.i64.wrap (1+1)=2:=by rw[Am _ (by omega)];rfl
 have o:¬(a.length:Int)<0:=by omega
 have t:¬((a.length+b.length:Nat):Int)<0:=by omega
 refine' FP;refine AZ (α:=Int×Int) (fun x=>[(11,.d (.int .i64 x.1)),(3,.d (.int .i64 x.2))]) (fun x=>[]) (fun x=>(x.1=0/\x.2=0)\/(x.1=1/\x.2=a.length)\/(x.1=2/\x.2=((a.length+b.length:Nat):Int))) (fun x=>(2-x.1).toNat) (0,0) ?hI1 ?step1
 case' step1=>(rintro⟨i,n⟩ j;try dsimp only at j)
 case' hI1=>try dsimp only
 ·exact .inl ⟨rfl,rfl⟩
 rcases j with⟨rfl,rfl⟩|⟨rfl,rfl⟩|⟨rfl,rfl⟩
 ·refine' Ta r e o @AAp
  all_goals first|omega|(simp at *;done)|skip
 ·refine' Ta m h t @AAo
  all_goals first|omega|(simp at *;done)|skip
 ·by_cases h0:a.length+b.length=0
  ·have q:a=[]:=eb (by omega);have p:b=[]:=eb (by omega);subst q p;have c1:BU E0 Dz [.list true [],.int .i64 (((([]:List Int).length+([]:List Int).length:Nat)):Int)] (.list true []):=Z0;refine' J6 @T8;repeat' first|(refine' BJ;(first|refine AF c1 ?_)<;>refine' J6 @T8)|refine' BI|done
   refine AZ (α:=Int) (fun x=>[(27,.d (.int .i64 x))]) (fun x=>[(33,.row 3 1 true [])]) (fun x=>x=0\/x=1\/x=2) (fun x=>(2-x).toNat) 0 ?hI2 ?step2
   case' step2=>(rintro i hI2;try dsimp only at hI2)
   case' hI2=>try dsimp only
   ·exact .inl rfl
   rcases hI2 with rfl|rfl|rfl
   ·refine' HM e
    all_goals first|omega|(simp at *;done)|skip
   ·refine' HM h
    all_goals first|omega|(simp at *;done)|skip
   ·refine' HM @T8
    all_goals first|omega|(simp at *;done)|rfl|skip
  ·have y:(a++b).isEmpty=false:=by cases a<;>cases b<;>simp_all
   have c1:=Zz (a.length+b.length) (by omega) (by omega);refine' J6 @T8;repeat' first|(refine' BJ;(first|refine B_ ([]) ([((22,2),(24,1))]) (c1) ?_)<;>refine' J6 @T8)|refine' BI|done
   refine AZ (α:=Int×(List Int)) (fun x=>[(27,.d (.int .i64 x.1))]) (fun x=>[(24,.row 3 1 false (Ad x.2))]) (fun x=>(x.1=0/\x.2=[])\/(x.1=1/\x.2=a)\/(x.1=2/\x.2=a++b)) (fun x=>(2-x.1).toNat) (0,[]) ?hI3 ?step3
   case' step3=>(rintro⟨i,l⟩ hI3;try dsimp only at hI3)
   case' hI3=>try dsimp only
   ·exact .inl ⟨rfl,rfl⟩
   rcases hI3 with⟨rfl,rfl⟩|⟨rfl,rfl⟩|⟨rfl,rfl⟩
   ·refine' MX e @i7.{0}
    all_goals first|omega|(simp at *;done)|skip
   ·refine' HM h
    all_goals first|omega|(simp at *;done)|skip
   ·refine' MX y @T8
    all_goals first|omega|(simp at *;done)|rfl|skip
theorem Wa(n1 n2:Bool)(a b:List F)(B:a.length<=100000)(hb:b.length<=100000):BU E0 Ca [.list false [.list n1 (us a),.list n2 (us b)]] (.list (a++b).isEmpty (us (a++b))):=by
 refine AL EC AR (by simp) fun z=>?_
 rw[AN];unfold CS;have u:IntKind.i64.wrap (0+(a.length:Int))=(a.length:Int):=by rw[i5];exact Am _ (by omega)
 have p:IntKind.i64.wrap ((a.length:Int)+(b.length:Int))=((a.length+b.length:Nat):Int):=by rw[Am _ (by omega)];omega
 have j:IntKind.i64.wrap (0+1)=1:=by rw[Am _ (by omega)];rfl
 have m:IntKind.i64.wrap (1+1)=2:=by rw[Am _ (by omega)];rfl
 have q:¬(a.length:Int)<0:=by omega
 have y:¬((a.length+b.length:Nat):Int)<0:=by omega
 refine' FP;refine AZ (α:=Int×Int) (fun x=>[(11,.d (.int .i64 x.1)),(3,.d (.int .i64 x.2))]) (fun x=>[]) (fun x=>(x.1=0/\x.2=0)\/(x.1=1/\x.2=a.length)\/(x.1=2/\x.2=((a.length+b.length:Nat):Int))) (fun x=>(2-x.1).toNat) (0,0) ?hI4 ?step4
 case' step4=>(rintro⟨i,n⟩ o;try dsimp only at o)
 case' hI4=>try dsimp only
 ·exact .inl ⟨rfl,rfl⟩
 rcases o with⟨rfl,rfl⟩|⟨rfl,rfl⟩|⟨rfl,rfl⟩
 ·refine' Ta u j q @AAp
  all_goals first|omega|(simp at *;done)|skip
 ·refine' Ta p m y @AAo
  all_goals first|omega|(simp at *;done)|skip
 ·by_cases h0:a.length+b.length=0
  ·have t:a=[]:=eb (by omega);have r:b=[]:=eb (by omega);subst t r;have c1:BU E0 BP [.list true [],.int .i64 (((([]:List F).length+([]:List F).length:Nat)):Int)] (.list true []):=Zy;refine' J6 @T8;repeat' first|(refine' BJ;(first|refine AF c1 ?_)<;>refine' J6 @T8)|refine' BI|done
   refine AZ (α:=Int) (fun x=>[(27,.d (.int .i64 x))]) (fun x=>[(33,.row 180 1 true [])]) (fun x=>x=0\/x=1\/x=2) (fun x=>(2-x).toNat) 0 ?hI5 ?step5
   case' step5=>(rintro i e;try dsimp only at e)
   case' hI5=>try dsimp only
   ·exact .inl rfl
   rcases e with rfl|rfl|rfl
   ·refine' HM j
    all_goals first|omega|(simp at *;done)|skip
   ·refine' HM m
    all_goals first|omega|(simp at *;done)|skip
   ·refine' HM @T8
    all_goals first|omega|(simp at *;done)|rfl|skip
  ·have A:(a++b).isEmpty=false:=by cases a<;>cases b<;>simp_all
   have c1:=Zx (a.length+b.length) (by omega) (by omega);refine' J6 @T8;repeat' first|(refine' BJ;(first|refine B_ ([]) ([((22,2),(24,1))]) (c1) ?_)<;>refine' J6 @T8)|refine' BI|done
   refine AZ (α:=Int×(List F)) (fun x=>[(27,.d (.int .i64 x.1))]) (fun x=>[(24,.row 180 1 false (us x.2))]) (fun x=>(x.1=0/\x.2=[])\/(x.1=1/\x.2=a)\/(x.1=2/\x.2=a++b)) (fun x=>(2-x.1).toNat) (0,[]) ?hI6 ?step6
   case' step6=>(rintro⟨i,l⟩ h;try dsimp only at h)
   case' hI6=>try dsimp only
   ·exact .inl ⟨rfl,rfl⟩
   rcases h with⟨rfl,rfl⟩|⟨rfl,rfl⟩|⟨rfl,rfl⟩
   ·refine' MX j @i7.{0}
    all_goals first|omega|(simp at *;done)|skip
   ·refine' HM m
    all_goals first|omega|(simp at *;done)|skip
   ·refine' MX A @T8
    all_goals first|omega|(simp at *;done)|rfl|skip
end
def Gi:List F->List F->F
 |a::asq,b::bs=>fa (fm a b) (Gi asq bs)
 |_,_=>0
def H2(r o:List F)(b:F):List F:=List.zipWith (fun x y=>fa x (fm y b)) r o
def Jc(r:List F)(b:F):List F:=r.map fun x=>fm x b
def FX(r:List F)(j:Nat):F:=r[j]?.getD 0
def Bb(M:List (List F))(i:Nat):List F:=M[i]?.getD []
def ent(M:List (List F))(i j:Nat):F:=FX (Bb M i) j
theorem vJ(a b c:F):fa a (fa b c)=fa b (fa a c):=by rw[←E4,RJ a b,E4]
theorem fa4(a b c d:F):fa (fa a b) (fa c d)=fa (fa a c) (fa b d):=by rw[E4,E4,vJ b c d]
theorem xV(a b c:F):fm (fa a b) c=fa (fm a c) (fm b c):=by rw[EU,PM,EU c a,EU c b]
theorem RH(a b c:F):fm a (fm b c)=fm b (fm a c):=by rw[←Gw,EU a b,Gw]
theorem Om(w:List F):Gi [] w=0:=rfl
theorem Vp(w:List F):Gi w []=0:=by cases w<;>rfl
theorem Ec(a b:F)(e bs:List F):Gi (a::e) (b::bs)=fa (fm a b) (Gi e bs):=rfl
theorem RN(b:F):∀(r o w:List F),r.length=o.length->Gi (H2 r o b) w=fa (Gi r w) (fm b (Gi o w))
 |[],[],w,_=>by simp[H2,Om,Eu,Dc]
 |x::r,y::o,[],_=>by simp[Vp,Eu,Dc]
 |x::r,y::o,c::w,h=>by
  have ih:=RN b r o w (by simpa using h);simp only[H2,List.zipWith_cons_cons,Ec]at ih ⊢;rw[ih,xV,PM,Gw,RH,fa4]
theorem Vo(b:F):∀(r w:List F),Gi (Jc r b) w=fm b (Gi r w)
 |[],w=>by simp[Jc,Om,Eu]
 |x::r,[]=>by simp[Vp,Eu]
 |x::r,c::w=>by
  have ih:=Vo b r w;simp only[Jc,List.map_cons,Ec]at ih ⊢;rw[ih,PM,Gw,RH]
theorem Vn(x y:F):∀(r w:List F),r.length=w.length->Gi (r++[x]) (w++[y])=fa (Gi r w) (fm x y)
 |[],[],_=>by simp[Gi,Dc,LX]
 |a::r,b::w,h=>by
  have ih:=Vn x y r w (by simpa using h);simp only[List.cons_append,Ec];rw[ih,E4]
theorem Ui:∀(r w:List F) (i:Nat),i<r.length->r.length=w.length->(∀j,j≠i->fm (FX r j) (FX w j)=0)->Gi r w=fm (FX r i) (FX w i)
 |a::r,b::w,0,_,hl,h=>by
  have e:Gi r w=0:=by
   have key:∀(r w:List F),(∀j,fm (FX r j) (FX w j)=0)->Gi r w=0:=by
    intro r
    induction r with
    |nil=>intro w _;rfl
    |cons a r ih =>
     intro w h
     cases w with
     |nil=>rfl
     |cons b w =>
      rw[Ec,ih w fun j=>h (j+1),show fm a b=0 from h 0];rfl
   exact key r w fun j=>h (j+1) (by omega)
  rw[Ec,e,Dc];rfl
 |a::r,b::w,i+1,hi,hl,h=>by
  have ih:=Ui r w i (by simpa using hi) (by simpa using hl) fun j l=>h (j+1) (by omega)
  rw[Ec,ih,show fm a b=0 from h 0 (by omega),LX];rfl
theorem ZS:∀(r w:List F) (i k:Nat),i<k->k<r.length->r.length=w.length->(∀j,j≠i->j≠k->fm (FX r j) (FX w j)=0)->Gi r w=fa (fm (FX r i) (FX w i)) (fm (FX r k) (FX w k))
 |a::r,b::w,0,k+1,_,hk,hl,h=>by
  rw[Ec,Ui r w k (by simpa using hk) (by simpa using hl) fun j e=>h (j+1) (by omega) (by omega)];rfl
 |a::r,b::w,i+1,k+1,hik,hk,hl,h=>by
  have ih:=ZS r w i k (by omega) (by simpa using hk) (by simpa using hl) fun j e l=>h (j+1) (by omega) (by omega)
  rw[Ec,ih,show fm a b=0 from h 0 (by omega) (by omega),LX];rfl
def Wg(c:F)(M:List (List F))(v:List F):Prop:=∀i,i<M.length->Gi (Bb M i) (v++[c])=0
structure WX (M:List (List F)) (n m:Nat):Prop where
 len:M.length=n
 row:∀i,i<n->(Bb M i).length=m
def Bd(f:F->F->F)(M:List (List F))(k:Nat):List (List F):=(ck M.length).map fun i=>if i=k then Bb M k else H2 (Bb M i) (Bb M k) (f (ent M i k) (ent M k k))
def swp(M:List (List F))(k p:Nat):List (List F):=(M.set k (Bb M p)).set p (Bb M k)
theorem Ps{α:Type}(n i:Nat)(g:Nat->List F)(h:i<n):Bb ((ck n).map g) i=g i:=by simp[Bb,h]
theorem Ho(M:List (List F))(k i:Nat)(r:List F)(hk:k<M.length):Bb (M.set k r) i=if i=k then r else Bb M i:=by
 unfold Bb
 by_cases h:i=k
 ·subst h;simp[hk]
 ·rw[List.getElem?_set_ne (fun e=>h e.symm),if_neg h]
theorem D8(f:F->F->F)(M:List (List F))(k i:Nat)(h:i<M.length):Bb (Bd f M k) i=if i=k then Bb M k else H2 (Bb M i) (Bb M k) (f (ent M i k) (ent M k k)) :=
 Ps (α:=F) M.length i _ h
theorem Fb(M:List (List F))(k p i:Nat)(hk:k<M.length)(hp:p<M.length):Bb (swp M k p) i=if i=p then Bb M k else if i=k then Bb M p else Bb M i:=by
 unfold swp;rw[Ho _ _ _ _ (by simpa using hp),Ho _ _ _ _ hk]
theorem SA(r o:List F)(b:F)(h:r.length=o.length):(H2 r o b).length=r.length:=by simp[H2,h]
theorem bL(r:List F)(b:F):(Jc r b).length=r.length:=by simp[Jc]
theorem WX.swp{M:List (List F)}{n m k p:Nat}(h:WX M n m)(hk:k<n)(hp:p<n):WX (swp M k p) n m:=by
 have hl:=h.len;refine⟨by simp[Go.Pw.swp,hl],fun i hi=>?_⟩;rw[Fb _ _ _ _ (by omega) (by omega)];split
 ·exact h.row k hk
 ·split
  ·exact h.row p hp
  ·exact h.row i hi
theorem WX.scl{M:List (List F)}{n m k:Nat}(h:WX M n m)(hk:k<n)(b:F):WX (M.set k (Jc (Bb M k) b)) n m:=by
 have hl:=h.len;refine⟨by simp[hl],fun i hi=>?_⟩;rw[Ho _ _ _ _ (by omega)];split
 ·rw[bL];exact h.row k hk
 ·exact h.row i hi
theorem WX.red{M:List (List F)}{n m k:Nat}(f:F->F->F)(h:WX M n m)(hk:k<n):WX (Bd f M k) n m:=by
 have hl:=h.len;refine⟨by simp[Bd,hl],fun i hi=>?_⟩;rw[D8 _ _ _ _ (by omega)];split
 ·exact h.row k hk
 ·rw[SA]
  ·exact h.row i hi
  ·rw[h.row i hi,h.row k hk]
theorem jO{M:List (List F)}{n m k p:Nat}(h:WX M n m)(hk:k<n)(hp:p<n)(c:F)(v:List F):Wg c (swp M k p) v↔Wg c M v:=by
 have hl:=h.len;have j:=(h.swp hk hp).len;constructor
 ·intro hs i hi
  by_cases h1:i=k
  ·subst h1;have:=hs p (by omega);rwa [Fb _ _ _ _ (by omega) (by omega),if_pos rfl]at this
  ·by_cases h2:i=p
   ·subst h2;have:=hs k (by omega);rwa [Fb _ _ _ _ (by omega) (by omega),if_neg (fun e=>h1 e.symm),if_pos rfl]at this
   ·have:=hs i (by omega);rwa [Fb _ _ _ _ (by omega) (by omega),if_neg h2,if_neg h1]at this
 ·intro hs i hi;rw[Fb _ _ _ _ (by omega) (by omega)];split
  ·exact hs k (by omega)
  ·split
   ·exact hs p (by omega)
   ·exact hs i (by omega)
theorem w7{M:List (List F)}{n m k:Nat}(h:WX M n m)(hk:k<n){b:F}(hb:b≠0)(c:F)(v:List F):Wg c (M.set k (Jc (Bb M k) b)) v↔Wg c M v:=by
 have hl:=h.len;constructor
 ·intro hs i hi;have:=hs i (by simpa using hi);rw[Ho _ _ _ _ (by omega)]at this;split at this
  ·rename_i e;subst e;rw[Vo]at this;exact(Vj _ _ this).resolve_left hb
  ·exact this
 ·intro hs i hi;rw[Ho _ _ _ _ (by omega)];split
  ·rename_i e;subst e;rw[Vo,hs i (by omega),Eu]
  ·exact hs i (by simpa using hi)
theorem jP{M:List (List F)}{n m k:Nat}(f:F->F->F)(h:WX M n m)(hk:k<n)(c:F)(v:List F):Wg c (Bd f M k) v↔Wg c M v:=by
 have hl:=h.len;have j:=(h.red f hk).len;constructor
 ·intro hs i hi;have h1:=hs k (by omega);rw[D8 _ _ _ _ (by omega),if_pos rfl]at h1
  by_cases e:i=k
  ·subst e;exact h1
  ·have h2:=hs i (by omega);rw[D8 _ _ _ _ (by omega),if_neg e,RN _ _ _ _ (by rw[h.row i (by omega),h.row k hk]),h1,Eu,Dc]at h2;exact h2
 ·intro hs i hi;rw[D8 _ _ _ _ (by omega)];split
  ·exact hs k (by omega)
  ·rw[RN _ _ _ _ (by rw[h.row i (by omega),h.row k hk]),hs i (by omega),hs k (by omega),Eu,Dc]
structure mg (M:List (List F)) (k:Nat):Prop where
 off:∀i j,i<M.length->j<k->i≠j->ent M i j=0
 dia:∀j,j<k->ent M j j≠0
theorem R8(r o:List F)(b:F)(j:Nat)(h:r.length=o.length):FX (H2 r o b) j=fa (FX r j) (fm (FX o j) b):=by
 unfold FX H2;rw[List.getElem?_zipWith]
 by_cases e:j<r.length
 ·rw[aa e,aa (by omega)];rfl
 ·rw[hU (by omega),hU (l:=o) (by omega)];show(0:F)=fa 0 (fm 0 b);rw[DM];rfl
theorem WJ(r:List F)(b:F)(j:Nat):FX (Jc r b) j=fm (FX r j) b:=by
 unfold FX Jc;rw[hY]
 cases r[j]? with
 |none=>exact(DM b).symm
 |some x=>rfl
theorem mg.swp{M:List (List F)}{n m k p:Nat}(hs:WX M n m)(h:mg M k)(hk:k<n)(q:k<=p)(hp:p<n):mg (swp M k p) k:=by
 have hl:=hs.len;have o:=(hs.swp hk hp).len;refine⟨fun i j hi e l=>?_,fun j e=>?_⟩
 ·unfold ent;rw[Fb _ _ _ _ (by omega) (by omega)];split
  ·exact h.off k j (by omega) e (by omega)
  ·split
   ·exact h.off p j (by omega) e (by omega)
   ·exact h.off i j (by omega) e l
 ·unfold ent;rw[Fb _ _ _ _ (by omega) (by omega),if_neg (by omega),if_neg (by omega)];exact h.dia j e
theorem i4{M:List (List F)}{n m k p:Nat}(hs:WX M n m)(hk:k<n)(hp:p<n)(j:Nat):ent (swp M k p) k j=ent M p j:=by
 have hl:=hs.len;unfold ent;rw[Fb _ _ _ _ (by omega) (by omega)];split
 ·rename_i e;subst e;rfl
 ·rw[if_pos rfl]
theorem mg.scl{M:List (List F)}{n m k:Nat}(hs:WX M n m)(h:mg M k)(hk:k<n)(b:F):mg (M.set k (Jc (Bb M k) b)) k:=by
 have hl:=hs.len;refine⟨fun i j hi e l=>?_,fun j e=>?_⟩
 ·unfold ent;rw[Ho _ _ _ _ (by omega)];split
  ·rw[WJ,show FX (Bb M k) j=0 from h.off k j (by omega) e (by omega),DM]
  ·exact h.off i j (by simpa using hi) e l
 ·unfold ent;rw[Ho _ _ _ _ (by omega),if_neg (by omega)];exact h.dia j e
theorem i8{M:List (List F)}{n m k:Nat}(hs:WX M n m)(hk:k<n)(b:F)(i j:Nat):ent (M.set k (Jc (Bb M k) b)) i j=if i=k then fm (ent M k j) b else ent M i j:=by
 have hl:=hs.len;unfold ent;rw[Ho _ _ _ _ (by omega)];split
 ·rw[WJ]
 ·rfl
theorem mg.red{M:List (List F)}{n m k:Nat}(f:F->F->F)(hs:WX M n m)(h:mg M k)(hk:k<n)(hd:ent M k k≠0)(q:∀a,fm (ent M k k) (f a (ent M k k))=a):mg (Bd f M k) (k+1):=by
 have hl:=hs.len;have p:=(hs.red f hk).len
 have e:∀i j,i<n->ent (Bd f M k) i j=if i=k then ent M k j else fa (ent M i j) (fm (ent M k j) (f (ent M i k) (ent M k k))):=fun i j hi=>by
  show FX (Bb (Bd f M k) i) j=_;rw[D8 _ _ _ _ (by omega)];split
  ·rfl
  ·rw[R8 _ _ _ _ (by rw[hs.row i hi,hs.row k hk])];rfl
 refine⟨fun i j hi l o=>?_,fun j l=>?_⟩
 ·rw[e i j (by omega)];rcases az.1 l with l|rfl
  ·split
   ·exact h.off k j (by omega) l (by omega)
   ·rw[h.off i j (by omega) l o,h.off k j (by omega) l (by omega),DM];rfl
  ·rw[if_neg o,q,Gx]
 ·rcases az.1 l with l|rfl
  ·rw[e j j (by omega),if_neg (by omega),h.off k j (by omega) l (by omega),DM,Dc];exact h.dia j l
  ·rw[e j j (by omega),if_pos rfl];exact hd
theorem Tj{M:List (List F)}{n m k:Nat}(f:F->F->F)(hs:WX M n m)(h:mg M k)(hk:k<n)(j:Nat)(i:j<=k):ent (Bd f M k) j j=ent M j j:=by
 have hl:=hs.len;show FX (Bb (Bd f M k) j) j=_;rw[D8 _ _ _ _ (by omega)];split
 ·rename_i e;subst e;rfl
 ·rename_i hne;rw[R8 _ _ _ _ (by rw[hs.row j (by omega),hs.row k hk]),show FX (Bb M k) j=0 from h.off k j (by omega) (by omega) (by omega),DM,Dc];rfl
theorem Lz(v:List F)(c:F)(j:Nat)(h:j<v.length):FX (v++[c]) j=FX v j:=by unfold FX;rw[List.getElem?_append_left h]
theorem QT(v:List F)(c:F):FX (v++[c]) v.length=c:=by unfold FX;simp
theorem Zk(v:List F)(j:Nat)(h:v.length<=j):FX v j=0:=by unfold FX;rw[hU h];rfl
theorem iM{M:List (List F)}{n m:Nat}(hs:WX M n (m+1))(h:mg M m)(hm:m<=n)(v:List F)(hv:v.length=m) :
  Wg 1 M v↔(∀i,i<m->fm (ent M i i) (FX v i)=ent M i m)/\∀i,m<=i->i<n->ent M i m=0:=by
 have hl:=hs.len;have t:(v++[1]).length=m+1:=by simp[hv]
 have low:∀i,i<m->Gi (Bb M i) (v++[1])=fa (fm (ent M i i) (FX v i)) (ent M i m):=fun i hi=>by
  rw[ZS (Bb M i) (v++[1]) i m hi (by rw[hs.row i (by omega)];omega) (by rw[hs.row i (by omega),t]) fun j h1 h2=>?_]
  ·rw[Lz _ _ _ (by omega),show FX (v++[1]) m=1 by rw[←hv];exact QT v 1,Lq];rfl
  ·by_cases r:j<m
   ·rw[show FX (Bb M i) j=0 from h.off i j (by omega) r (fun e=>h1 e.symm),DM]
   ·rw[Zk (Bb M i) j (by rw[hs.row i (by omega)];omega),DM]
 have o:∀i,m<=i->i<n->Gi (Bb M i) (v++[1])=ent M i m:=fun i hi q=>by
  rw[Ui (Bb M i) (v++[1]) m (by rw[hs.row i (by omega)];omega) (by rw[hs.row i (by omega),t]) fun j h1=>?_]
  ·rw[show FX (v++[1]) m=1 by rw[←hv];exact QT v 1,Lq];rfl
  ·by_cases r:j<m
   ·rw[show FX (Bb M i) j=0 from h.off i j (by omega) r (by omega),DM]
   ·rw[Zk (Bb M i) j (by rw[hs.row i (by omega)];omega),DM]
 constructor
 ·intro l;refine⟨fun i hi=>?_,fun i hi q=>?_⟩
  ·have:=l i (by omega);rw[low i hi]at this;exact JA _ _ this
  ·have:=l i (by omega);rwa [o i hi q]at this
 ·rintro⟨h1,h2⟩ i hi
  by_cases p:i<m
  ·rw[low i p,h1 i p,Gx]
  ·rw[o i (by omega) (by omega)];exact h2 i (by omega) (by omega)
theorem oD{M:List (List F)}{n m k:Nat}(hs:WX M n (m+1))(h:mg M k)(hk:k<m)(hm:m<=n)(z:∀i,k<=i->i<n->ent M i k=0) :
  ∃v:List F,v.length=m/\Wg 0 M v/\FX v k=1:=by
 have hl:=hs.len;obtain⟨v,q⟩:∃v:List F,v=(ck m).map fun j=>if j<k then fm (ent M j k) (fi (ent M j j))else if j=k then 1 else 0:=⟨_,rfl⟩
 have hv:v.length=m:=by simp[q]
 have x:∀j,j<m->FX v j=if j<k then fm (ent M j k) (fi (ent M j j))else if j=k then 1 else 0:=fun j l=>by rw[q];simp[FX,l]
 have p:FX v k=1:=by rw[x k hk,if_neg (by omega),if_pos rfl]
 refine⟨v,hv,fun i hi=>?_,p⟩;have y:(v++[0]).length=m+1:=by simp[hv]
 have r:∀j,j≠k->¬j<k->FX (v++[0]) j=0:=fun j h1 h2=>by
  by_cases l:j<m
  ·rw[Lz _ _ _ (by omega),x j l,if_neg h2,if_neg h1]
  ·by_cases t:j=m
   ·subst t;rw[←hv];exact QT v 0
   ·exact Zk _ _ (by omega)
 have u:FX (v++[0]) k=1:=by rw[Lz _ _ _ (by omega)];exact p
 by_cases o:i<k
 ·rw[ZS (Bb M i) (v++[0]) i k o (by rw[hs.row i (by omega)];omega) (by rw[hs.row i (by omega),y]) fun j h1 h2=>?_]
  ·rw[u,Lq,Lz _ _ _ (by omega),x i (by omega),if_pos o];show fa (fm (ent M i i) (fm (ent M i k) (fi (ent M i i)))) (ent M i k)=0;rw[RH,xU _ (h.dia i o),Lq,Gx]
  ·by_cases l:j<k
   ·rw[show FX (Bb M i) j=0 from h.off i j (by omega) l (fun e=>h1 e.symm),DM]
   ·rw[r j h2 l,Eu]
 ·rw[Ui (Bb M i) (v++[0]) k (by rw[hs.row i (by omega)];omega) (by rw[hs.row i (by omega),y]) fun j h1=>?_]
  ·rw[show FX (Bb M i) k=0 from z i (by omega) (by omega),DM]
  ·by_cases l:j<k
   ·rw[show FX (Bb M i) j=0 from h.off i j (by omega) l (by omega),DM]
   ·rw[r j h1 l,Eu]
end Go.Pw

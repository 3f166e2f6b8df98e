/- A part of the proof. -/
import Derived.Test.YtpcpcjbbdgmohaaLgA
import Derived.Test.YtpcpcjbbdgmohaaPsPC
set_option linter.all false
open Go Go.Pw Go.Proofs
namespace Go.Pw
set_option maxRecDepth 100000
set_option maxHeartbeats 1600000
def eQ (o:Cx):List D:=[.int .i64 o.kind,.int .i64 o.blk]
def Nh (o:Cx):D:=.agg (eQ o)
def NH (l:List Cx):List D:=l.map Nh
def M4 (c:Au):List D:=[.int .i64 c.blocks,.list c.on (NH c.ords)]
def HN (c:Au):D:=.agg (M4 c)
def cx (d:Ew):D:=.agg [.int .i64 d.aft,.int .i64 d.blk]
def Oy (l:List Ew):List D:=l.map cx
theorem Ab (o:Cx):eQ o=[.int .i64 o.kind,.int .i64 o.blk]:=rfl
theorem Aa (o:Cx):Nh o=.agg (eQ o):=rfl
theorem AI (c:Au):M4 c=[.int .i64 c.blocks,.list c.on (NH c.ords)]:=rfl
theorem Am (c:Au):HN c=.agg (M4 c):=rfl
theorem Bg (d:Ew):cx d=.agg [.int .i64 d.aft,.int .i64 d.blk]:=rfl
theorem AG (l:List Cx):(NH l).length=l.length:=by simp[NH]
theorem BH (l:List Cx):DY 2 (NH l)=True:=JW fun _=>rfl
theorem A' {l:List Cx}{i:Nat}{A:D->Prop}:Ay (NH l)[i]? A=(i<l.length/\A (Nh (l[i]?.getD default))):=FQ
theorem Aj (l:List Ew):(Oy l).length=l.length:=by simp[Oy]
theorem A1 (l:List Ew):DY 2 (Oy l)=True:=JW fun _=>rfl
theorem Ax {l:List Ew}{i:Nat}{A:D->Prop}:Ay (Oy l)[i]? A=(i<l.length/\A (cx (l[i]?.getD default))):=FQ
def Au.check (c:Au):Int:=if c.ok then 0 else 80
def Au.far (c:Au):Bool:=decide (40<c.ords.length) || (c.ok && (decide (3<c.blocks) || decide (7<c.ords.length)))
attribute [local congr] Dy CG CH Bn D0 Bu Bw Bv Bm BU BN BG Bp BO Br CT CU CS CV CW CX Bo CN CM Bq BS Bt BT CK C8 BR CQ CR CL CI CJ Dz BP BQ Bs CO CP
attribute [local irreducible] IntKind.wrap Cf Option.getD and or
theorem Dh (n lo hi:Int):E9 E0 KA [.int .i64 n,.int .i64 lo,.int .i64 hi] (.bool (HS n lo hi)):=by
 refine Ao M1 A3 (by simp) fun hwf=>?_
 rw[Az];unfold JC HS
 (try (simp -implicitDefEqProofs only[go_sem]));repeat' first|(with_reducible first|exact tI|refine aI ?_ ?_|intro _)|((first|with_reducible refine Af ?_ ?_<;>intro _)<;>try (simp -implicitDefEqProofs only[go_sem]))|simp (disch:=omega) only[A8]
 all_goals first|omega|(simp_all;done)|(simp_all;omega)
theorem EA (n lo hi:Int):E9 E0 J_ [.int .i64 n,.int .i64 lo,.int .i64 hi] (.bool (HS n lo hi)):=by
 refine Ao Mz A3 (by simp) fun hwf=>?_
 rw[Az];unfold I' HS
 (try (simp -implicitDefEqProofs only[go_sem]));repeat' first|(with_reducible first|exact tI|refine aI ?_ ?_|intro _)|((first|with_reducible refine Af ?_ ?_<;>intro _)<;>try (simp -implicitDefEqProofs only[go_sem]))|simp (disch:=omega) only[A8]
 all_goals first|omega|(simp_all;done)|(simp_all;omega)
theorem PD (o:Cx):E9 E0 Mb [Nh o] (.bool o.puts):=by
 refine Ao O5 A3 (by simp) fun hwf=>?_
 obtain⟨k,b⟩:=o
 rw[Az];unfold Kr Cx.puts
 by_cases h:k=1
 ·subst h
  (try (simp -implicitDefEqProofs only[go_sem,Aa,Ab,decide_true]));repeat' first|(with_reducible first|exact tI|refine aI ?_ ?_|intro _)|((first|with_reducible refine Af ?_ ?_<;>intro _)<;>try (simp -implicitDefEqProofs only[go_sem,Aa,Ab,decide_true]))|simp (disch:=omega) only[A8]
  all_goals first|rfl|(simp;done)|(simp_all;done)|skip
 ·(try (simp -implicitDefEqProofs only[go_sem,Aa,Ab,h,decide_false]));repeat' first|(with_reducible first|exact tI|refine aI ?_ ?_|intro _)|((first|with_reducible refine Af ?_ ?_<;>intro _)<;>try (simp -implicitDefEqProofs only[go_sem,Aa,Ab,h,decide_false]))|simp (disch:=omega) only[A8]
  all_goals first|rfl|(simp;done)|(simp_all;done)|skip
theorem Jh (o:Cx):E9 E0 MZ [Nh o] (.bool o.puts):=by
 refine Ao O3 A3 (by simp) fun hwf=>?_
 obtain⟨k,b⟩:=o
 rw[Az];unfold Kp Cx.puts
 by_cases h:k=1
 ·subst h
  (try (simp -implicitDefEqProofs only[go_sem,Aa,Ab,decide_true]));repeat' first|(with_reducible first|exact tI|refine aI ?_ ?_|intro _)|((first|with_reducible refine Af ?_ ?_<;>intro _)<;>try (simp -implicitDefEqProofs only[go_sem,Aa,Ab,decide_true]))|simp (disch:=omega) only[A8]
  all_goals first|rfl|(simp;done)|(simp_all;done)|skip
 ·(try (simp -implicitDefEqProofs only[go_sem,Aa,Ab,h,decide_false]));repeat' first|(with_reducible first|exact tI|refine aI ?_ ?_|intro _)|((first|with_reducible refine Af ?_ ?_<;>intro _)<;>try (simp -implicitDefEqProofs only[go_sem,Aa,Ab,h,decide_false]))|simp (disch:=omega) only[A8]
  all_goals first|rfl|(simp;done)|(simp_all;done)|skip
theorem MV (c:Au) (o:Cx) (hb:1<=c.blocks/\c.blocks<=6):E9 E0 FO [Nh o,.ptr (M4 c)] (.bool (o.ok c.blocks)):=by
 refine Ao MP A3 (by simp) fun hwf=>?_
 have c1:=PD o
 have w1:IntKind.i64.wrap (c.blocks-1)=c.blocks-1:=BM _ (by omega)
 have c2:=Dh o.blk 0 (c.blocks-1)
 obtain⟨k,b⟩:=o
 rw[Aa,Ab] at c1
 rw[Az];unfold IH Cx.ok
 simp only at c2 ⊢
 obtain⟨p,hp⟩:∃p,Cx.puts ⟨k,b⟩=p:=⟨_,rfl⟩
 obtain⟨q,hq⟩:∃q,HS b 0 (c.blocks-1)=q:=⟨_,rfl⟩
 rw[hp] at c1 ⊢;rw[hq] at c2 ⊢
 by_cases h3:k=3
 ·subst h3
  cases p<;>cases q
  all_goals ((try (simp -implicitDefEqProofs only[go_sem,Aa,Ab,AI,w1,decide_true]));repeat' first|(with_reducible first|exact tI|refine aI ?_ ?_|intro _)|((first|with_reducible refine Af ?_ ?_<;>intro _|(with_reducible refine isCall ?_);first|refine Ae c1 ?_|refine Ae c2 ?_)<;>try (simp -implicitDefEqProofs only[go_sem,Aa,Ab,AI,w1,decide_true]))|simp (disch:=omega) only[A8] )
  all_goals first|rfl|(simp;done)|(simp_all;done)|skip
 ·by_cases h4:k=4
  ·subst h4
   cases p<;>cases q
   all_goals ((try (simp -implicitDefEqProofs only[go_sem,Aa,Ab,AI,w1,decide_true,decide_false]));repeat' first|(with_reducible first|exact tI|refine aI ?_ ?_|intro _)|((first|with_reducible refine Af ?_ ?_<;>intro _|(with_reducible refine isCall ?_);first|refine Ae c1 ?_|refine Ae c2 ?_)<;>try (simp -implicitDefEqProofs only[go_sem,Aa,Ab,AI,w1,decide_true,decide_false]))|simp (disch:=omega) only[A8] )
   all_goals first|rfl|(simp;done)|(simp_all;done)|skip
  ·cases p<;>cases q
   all_goals ((try (simp -implicitDefEqProofs only[go_sem,Aa,Ab,AI,w1,h3,h4,decide_true,decide_false]));repeat' first|(with_reducible first|exact tI|refine aI ?_ ?_|intro _)|((first|with_reducible refine Af ?_ ?_<;>intro _|(with_reducible refine isCall ?_);first|refine Ae c1 ?_|refine Ae c2 ?_)<;>try (simp -implicitDefEqProofs only[go_sem,Aa,Ab,AI,w1,h3,h4,decide_true,decide_false]))|simp (disch:=omega) only[A8] )
   all_goals first|rfl|(simp;done)|(simp_all;done)|skip
theorem MU (c:Au) (o:Cx) (hb:1<=c.blocks/\c.blocks<=6):E9 E0 Gk [Nh o,.ptr [.fn FO [.ptr (M4 c)]]] (.bool (!o.ok c.blocks)):=by
 refine Ao MO A3 (by simp) fun hwf=>?_
 have c1:=MV c o hb
 rw[Az];unfold IG
 obtain⟨p,hp⟩:∃p,o.ok c.blocks=p:=⟨_,rfl⟩
 rw[hp] at c1 ⊢
 cases p
 all_goals ((try (simp -implicitDefEqProofs only[go_sem,Aa,Ab]));repeat' first|(with_reducible first|exact tI|refine aI ?_ ?_|intro _)|((first|with_reducible refine Af ?_ ?_<;>intro _|(with_reducible refine isCall ?_);first|refine Ae c1 ?_)<;>try (simp -implicitDefEqProofs only[go_sem,Aa,Ab]))|simp (disch:=omega) only[A8] )
 all_goals first|rfl|kernel_rfl|skip
theorem Pn (nl:Bool) (xs:List Cx) (f:FuncId) (cs:List D) (p:Cx->Bool) (hb:Ci E0.P f=true) (hcs:A6 AV.toD1 (cs.map .d)=some cs) (h:∀x,x∈xs->E9 E0 f (Nh x::cs) (.bool (p x))) :
  E9 E0 DP [.list nl (NH xs),.fn f cs] (.int .i64 (match xs.findIdx? p with|some i=>i|none=>-1)):=by
 refine Ao Eh A3 (by simp) fun hwf=>?_
 simp only[Md,LT,LS,KF,N_,N9,Rr,N8,GN,G5,G6,L7,IJ,List.length_map,HI,true_and,and_true,AG] at hwf
 rw[Az];unfold DH
 simp -implicitDefEqProofs only[go_sem,AG]
 refine BB (α:=Int) (l0:=?l1) (m0:=?m1) (fun x=>[(8,.d (.int .i64 x))]) (fun x=>[]) (fun x=>0<=x/\x<=xs.length/\∀(j:Nat) (hj:j<xs.length),(j:Int)<x->p xs[j]=false) (fun x=>(xs.length-x).toNat) ?a1_0 ?h01 ?he1 ?he21 ?hI1 ?step1
 case h01=>(simp -implicitDefEqProofs only[go_sem,AG];rfl)
 case he1=>rfl
 case he21=>rfl
 case' step1=>(rintro i hI;try dsimp only at hI)
 case' hI1=>try dsimp only
 ·simp
  omega
 ·(try (simp -implicitDefEqProofs only[go_sem,AG,BH,A',Aa,Ab]));repeat' first|(with_reducible first|exact tI|refine aI ?_ ?_|intro _)|((first|with_reducible refine Af ?_ ?_<;>intro _)<;>try (simp -implicitDefEqProofs only[go_sem,AG,BH,A',Aa,Ab]))|simp (disch:=omega) only[A8]|((with_reducible refine BF ?_);refine⟨_,rfl,?_,?_⟩)
  all_goals first|omega|(simp<;>omega)|skip
  ·have hx:xs[i.toNat]?.getD default=xs[i.toNat]'(by omega):=by rw[List.getElem?_eq_getElem (by omega),Option.getD_some]
   rw[hx]
   refine VH (h _ (List.getElem_mem _)) (J5 rfl hcs) (fun hp=>?_) (fun hp=>?_)
   ·simp -implicitDefEqProofs only[go_sem]
    have:xs.findIdx? p=some i.toNat:=by rw[List.findIdx?_eq_some_iff_getElem];exact⟨by omega,hp,fun j hj=>by simp[hI.2.2 j (by omega) (by omega)]⟩
    rw[this];simp;omega
   ·(try (simp -implicitDefEqProofs only[go_sem,AG]));repeat' first|(with_reducible first|exact tI|refine aI ?_ ?_|intro _)|((first|with_reducible refine Af ?_ ?_<;>intro _)<;>try (simp -implicitDefEqProofs only[go_sem,AG]))|simp (disch:=omega) only[A8]|((with_reducible refine BF ?_);refine⟨_,rfl,?_,?_⟩)
    all_goals first|omega|(simp<;>omega)|skip
    rename_i j hj hlt
    by_cases hjk:j=i.toNat
    ·subst hjk;exact hp
    ·exact hI.2.2 j hj (by omega)
  ·have:xs.findIdx? p=none:=by
    rw[List.findIdx?_eq_none_iff];intro x hx;obtain⟨j,hj,rfl⟩:=List.getElem_of_mem hx;exact hI.2.2 j hj (by omega)
   rw[this]
theorem M6 (nl:Bool) (xs:List Cx) (f:FuncId) (cs:List D) (p:Cx->Bool) (hb:Ci E0.P f=true) (hcs:A6 AV.toD1 (cs.map .d)=some cs) (h:∀x,x∈xs->E9 E0 f (Nh x::cs) (.bool (p x))) :
  E9 E0 DB [.list nl (NH xs),.fn f cs] (.bool (xs.any p)):=by
 refine Ao EJ A3 (by simp) fun hwf=>?_
 rw[Az];unfold C5
 simp -implicitDefEqProofs only[go_sem]
 refine VG (Pn nl xs f cs p hb hcs h) rfl ?_
 simp -implicitDefEqProofs only[go_sem]
 have key:(0:Int)<=(match xs.findIdx? p with|some i=>(i:Int)|none=>-1)↔xs.any p=true:=by
  cases hf:xs.findIdx? p with
  |none=>rw[List.findIdx?_eq_none_iff] at hf;simp;intro x hx;simp[hf x hx]
  |some i=>rw[List.findIdx?_eq_some_iff_getElem] at hf;simp;exact⟨_,List.getElem_mem hf.1,hf.2.1⟩
 grind
end Go.Pw

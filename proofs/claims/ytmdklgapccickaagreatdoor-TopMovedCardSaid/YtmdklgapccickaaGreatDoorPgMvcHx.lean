/- Part. -/
import Derived.Test.YtmdklgapccickaaGreatDoorPgMvcHq
import Derived.Test.YtmdklgapccickaaGreatDoorPgMvChI
import Derived.Test.YtmdklgapccickaaGreatDoorPgMvM
import Derived.Test.YtmdklgapccickaaGreatDoorPgMvChcX
import Derived.Test.YtmdklgapccickaaGreatDoorPgMvChrFs
import Derived.Test.YtmdklgapccickaaGreatDoorPgMvChrDec
set_option linter.all false
open List renaming mem_append->aa,length_take->ax,mem_filter->az,getElem?_eq_getElem->ck,length_append->ea,range->eb,getElem_take->et,length_drop->f0,take_of_length_le->hU,range_succ->hX,append_nil->i5,nodup_append->j0,ext_getElem->kk,getElem_drop->la
open Option renaming getD->ay
open Nat renaming mul_le_mul_right->cp,succ_mul->cw,lt_or_ge->c8,lt_succ_self->hY,zero_add->i7,le_refl->j4
open Go Go.Pw Go.Proofs
namespace Go.Pw
set_option maxRecDepth 100000
set_option maxHeartbeats 6400000
section
theorem YV(l:List Ee)(a z s:Int)(o:Bool):EV l++[.agg [.int .i64 a,.int .i64 z,.bool o,.int .i64 s,.list true []]]=EV (l++[((a,z,o),s,[])]):=by simp[EV,XK,Ad]
theorem IY(l:List Ee)(a z s:Int)(o:Bool)(d:List Int)(w:Int):EV l++[.agg [.int .i64 a,.int .i64 z,.bool o,.int .i64 s,.list false (Ad (d++[w]))]]=EV (l++[((a,z,o),s,d++[w])]):=by simp[EV,XK,Ad]
theorem bX(c:GCode)(i:Int)(h0:0<=i)(h:i<c.words.length):c.queue0.take (i+1).toNat=c.queue0.take i.toNat++[((i,0,false),i,[])]:=by
 rw[show(i+1).toNat=i.toNat+1 by omega,List.take_add_one];congr 1;unfold GCode.queue0 GCode.starts;simp[show i.toNat<c.words.length by omega];omega
def GCode.holdsT(c:GCode):D:=if c.ok then c.holdsD else .tup [.bool false,.agg [.int .i64 0,.list true []],.int .i64 40]
def NF:PC :=
 .seq (.reg [] (AB 1 .box 0::Al 2 false::AG 3 (.zero [.int .i64 0,.list true []]) []::AM 4 0::[]) [1,3]) (.seq (.reg [] (AB 15 (.load true 6) 1::AB 16 (.build [.int .i64 0,.int .i64 0,.int .i64 0,.int .i64 0,.list true [],.list true []] [(0,6)]) 15::AG 5 (.zero [.int .i64 0,.int .i64 0,.int .i64 0,.int .i64 0,.list true [],.list true []]) []::Ae (.store 6) [.t 5,.t 16]::[]) [1,3,5]) (.seq (.seq (.reg [] (AB 17 (.load true 6) 1::AB 18 (.call 37) 17::AA 6 18::[]) [3,5,6]) (.seq (.reg [] (AA 19 6::AK 20 (.bin .neq) 19 0::[]) [3,5,6,20]) (.cond (.t 20) (.seq (.reg [] (AG 21 (.build [.int .i64 0,.list true []] []) []::AA 22 6::Al 2 false::Ae (.store 2) [.t 3,.t 21]::AA 4 22::[]) [2,3,4]) (.ret)) (.skip)))) (.seq (.reg [] (AG 7 .mov [.k (.d (.list true []))]::[]) [3,5,7]) (.seq (.reg [] (AG 23 (.mkmap (true,[some .i64,some .i64,none])) []::AA 8 23::[]) [3,5,7,8]) (.seq (.seq (.reg [] (AJ 24 0 5::AJ 25 4 24::AH 26 1 25::AB 27 (.len false) 26::AM 28 0::[]) [3,5,7,8,27,28]) (.block 0 (.loop [.own 7 38 94 5] [3,5,7,8,27,28] [3,5,23,38,68,71,96,10068,900000,901000] (.seq (.reg [] (AD 29 (.bin .lss) 28 27::[]) [3,5,7,8,27,28,29]) (.seq (.cond (.t 29) (.skip) (.exit 0)) (.seq (.block 1 (.seq (.reg [] (AA 30 28::AA 9 30::[]) [3,5,7,8,9,27,28]) (.reg [] (AA 31 7::AA 32 9::AB 33 (.build [.int .i64 0,.int .i64 0,.bool false] [(0,1)]) 32::AA 34 9::AB 35 (.build [.int .i64 0,.list true []] [(0,1)]) 34::AD 36 (.build [.int .i64 0,.int .i64 0,.bool false,.int .i64 0,.list true []] [(0,3),(3,2)]) 33 35::AB 37 (.mkrow 5 (.agg [.int .i64 0,.int .i64 0,.bool false,.int .i64 0,.list true []]) 1 [0]) 36::AD 38 (.app 94 5 none true) 31 37::AA 7 38::[]) [3,5,7,8,27,28]))) (.reg [] (AK 39 (.bin .add) 28 1::AA 28 39::[]) [3,5,7,8,27,28]))))))) (.seq (.block 2 (.loop [] [3,5,7,8] [3,5,23,38,68,71,96,10068,900000,901000] (.seq (.seq (.reg [] (AA 40 7::AB 41 (.len false) 40::AK 42 (.bin .gtr) 41 0::[]) [3,5,7,8,42]) (.cond (.t 42) (.skip) (.exit 2))) (.block 3 (.seq (.reg [] (AA 43 7::AK 44 (.iaddrS 5) 43 0::AB 45 (.load true 5) 44::AG 10 (.zero [.int .i64 0,.int .i64 0,.bool false,.int .i64 0,.list true []]) []::Ae (.store 5) [.t 10,.t 45]::[]) [3,5,7,8,10]) (.seq (.reg [] (AA 46 7::AK 47 (.slice 5 true false false) 46 1::AA 7 47::[]) [3,5,7,8,10]) (.seq rx (.seq (.seq (.reg [] (AA 55 8::AJ 56 0 10::AB 57 (.load true 3) 56::AD 58 (.lookup false (true,[some .i64,some .i64,none]) (.int .i64 0)) 55 57::AK 59 (.bin .gtr) 58 1::[]) [3,5,7,8,10,59]) (.cond (.t 59) (.exit 3) (.skip))) (.seq (.reg [] (AB 60 (.load true 6) 5::AB 61 (.call 38) 60::AM 62 0::[]) [3,5,7,8,10,61,62]) (.block 4 (.loop [] [3,5,7,8,10,61,62] [3,5,10,23,38,61,68,71,96,10061,10068,900000,901000] (.seq (.reg [] (AD 63 (.bin .lss) 62 61::[]) [3,5,7,8,10,61,62,63]) (.seq (.cond (.t 63) (.skip) (.exit 4)) (.seq (.block 5 (.seq (.reg [] (AA 64 62::AA 11 64::[]) [3,5,7,8,10,11,61,62]) (.seq (.reg [] (AJ 65 3 10::AJ 66 1 65::AH 67 1 66::AB 68 (.call 35) 67::AA 69 11::AB 70 (.mkrow 1 (.int .i64 0) 1 [0]) 69::AD 71 (.app 3 1 none true) 68 70::AA 12 71::[]) [3,5,7,8,10,11,12,61,62]) (.seq (.reg [] (AB 73 (.load true 6) 5::AJ 74 0 10::AB 75 (.load true 3) 74::AA 76 11::AG 77 (.call 39) [.t 73,.t 75,.t 76]::AA 72 77::AW 78 0 72::AW 79 1 72::AG 13 (.zero [.int .i64 0,.int .i64 0,.bool false]) []::Ae (.store 3) [.t 13,.t 78]::AA 14 79::[]) [3,5,7,8,10,12,13,14,61,62]) (.seq (.seq (.reg [] (AA 80 14::AB 81 (.un .not) 80::[]) [3,5,7,8,10,12,13,61,62,81]) (.cond (.t 81) (.seq (.draw [.freeze 12] ((AJ 82 3 10,[])::(AJ 83 0 82,[])::(AH 84 1 83,[])::(AA 85 12,[])::(AD 86 (.build [.int .i64 0,.list true []] [(0,1),(1,1)]) 84 85,[])::(Al 2 false,[])::(Ae (.store 2) [.t 3,.t 86],[])::(AM 4 0,[])::[]) [2,3,4]) (.ret)) (.skip))) (.reg [.freeze 12] (AA 87 7::AB 88 (.load true 3) 13::AJ 89 3 10::AJ 90 0 89::AH 91 1 90::AA 92 12::AD 93 (.build [.int .i64 0,.list true []] [(0,1),(1,1)]) 91 92::AD 94 (.build [.int .i64 0,.int .i64 0,.bool false,.int .i64 0,.list true []] [(0,3),(3,2)]) 88 93::AB 95 (.mkrow 5 (.agg [.int .i64 0,.int .i64 0,.bool false,.int .i64 0,.list true []]) 1 [0]) 94::AD 96 (.app 94 5 none true) 87 95::AA 7 96::[]) [3,5,7,8,10,61,62])))))) (.reg [] (AK 97 (.bin .add) 62 1::AA 62 97::[]) [3,5,7,8,10,61,62]))))))))))))))) (.seq (.reg [] (AG 98 (.build [.int .i64 0,.list true []] []) []::Al 2 true::Ae (.store 2) [.t 3,.t 98]::AM 4 0::[]) [2,3,4]) (.ret))))))))
theorem T_:Br E0 Pi NF [.t 2,.c 3 39 true 2,.t 4] 99:=AI (fl:=[]) (by kernel_rfl)
theorem IX(l:List Ee)(a z s:Int)(o:Bool)(w:Int):EV l++[.agg [.int .i64 a,.int .i64 z,.bool o,.int .i64 s,.list false [.int .i64 w]]]=EV (l++[((a,z,o),s,[]++[w])]):=by simp[EV,XK,Ad]
theorem YG{c:GCode}{t:Ee}{w:Int}{Qp:List Ee}(h0:0<=w)(e:w<c.W)(hs:c.stp t.1 w=none):c.bfsW t (c.W-w.toNat) w Qp=.bad t.2.1 (t.2.2++[w]):=by
 rw[show c.W-w.toNat=(c.W-w.toNat-1)+1 by omega,GCode.bfsW,hs]
theorem YF{c:GCode}{t:Ee}{w:Int}{Qp:List Ee}{r:Cd}(h0:0<=w)(e:w<c.W)(hs:c.stp t.1 w=some r):c.bfsW t (c.W-w.toNat) w Qp=c.bfsW t (c.W-(w+1).toNat) (w+1) (Qp++[(r,t.2.1,t.2.2++[w])]):=by
 rw[show c.W-w.toNat=(c.W-(w+1).toNat)+1 by omega,GCode.bfsW,hs]
theorem N6(c:GCode):(2:Int)^c.bits.toNat=c.W:=by unfold GCode.W;simp
theorem Xs(a z:Int)(o:Bool)(v:Int)(m:G3):C0 (.agg [.int .i64 a,.int .i64 z,.bool o]) (Ej (Iu (a,z,o) v m))=some (.int .i64 v):=by rw[P5,kp];rfl
attribute [local irreducible] IntKind.wrap Ah ay and or
theorem UT(xs:List Int)(hl:xs.length<=1000)(hne:0<xs.length):Eg E0 CC [] [.d (.list false (Ad xs))] [(7,1,.row 3 1 false (Ad xs))] (.own 7 1):=by
 refine BW CT AR (by simp) (by simp[I_,CG,Cr]) (by simp[Fh]) fun e i=>?_
 rw[Bh];unfold B7;have hn:¬xs=[]:=by intro h;rw[h]at hne;simp at hne
 refine' HM hn
 all_goals first|omega|rfl
theorem UU:BU E0 CC [.list true []] (.list true []):=by
 refine AL CT AR (by simp) fun e=>?_
 rw[AN];unfold B7;refine' FP
 all_goals first|omega|rfl
theorem UR(c:GCode):BU E0 Pi [Hz c] c.holdsT:=by
 refine AL T_ AR (by simp) fun hwf=>?_
 have c1:=H' c;unfold GCode.holdsT;rw[AN];unfold NF
 cases h:c.ok with
 |false =>
  rw[h]at c1
  (try(simp -implicitDefEqProofs only[go_sem,An,Ak,KG]));repeat' first|(with_reducible first|exact tI|refine aI ?_ ?_|intro _)|((first|with_reducible refine GK ?_ ?_<;>intro _|(with_reducible refine isCall ?_);first|refine AF c1 ?_)<;>try(simp -implicitDefEqProofs only[go_sem,An,Ak,KG]))|simp (disch:=omega)only[Jb]
  all_goals trace_state
 |true =>
  rw[h]at c1;have hd:=GCode.ok_head h;unfold GCode.holdsD;have hR:=wX h;have υ:c.bfsR=c.bfs 600 c.queue0 []:=rfl;generalize c.bfsR=R at *;simp only[if_true]
  (try(simp -implicitDefEqProofs only[go_sem,An,Ak,KG,BB]));repeat' first|(with_reducible first|exact tI|refine aI ?_ ?_|intro _)|((first|with_reducible refine GK ?_ ?_<;>intro _|(with_reducible refine isCall ?_);first|refine AF c1 ?_)<;>try(simp -implicitDefEqProofs only[go_sem,An,Ak,KG,BB]))|simp (disch:=omega)only[Jb]
  all_goals(try omega)
  refine BN (α:=Int×(List Ee)×Bool) (l0:=?l1) (m0:=?m1) (fun x=>[(28,.d (.int .i64 x.1))]) (fun x=>[(38,.row 94 5 x.2.2 (EV x.2.1))]) (fun x=>(0<=x.1/\x.1<=c.words.length)/\x.2.1=c.queue0.take x.1.toNat/\x.2.2=x.2.1.isEmpty) (fun x=>(c.words.length-x.1).toNat) (?a1_0,[],true) ?h01 ?he1 ?he21 ?hI1 ?step1
  case h01=>(simp -implicitDefEqProofs only[go_sem,BB];rfl)
  case he1=>rfl
  case he21=>rfl
  case' step1=>(rintro⟨i,Q,b⟩ hI;try dsimp only at hI)
  case' hI1=>try dsimp only
  ·exact⟨⟨by omega,by omega⟩,rfl,rfl⟩
  ·obtain⟨⟨q1,q2⟩,q3,q4⟩:=hI
   by_cases hi:i<c.words.length
   ·have L:IntKind.i64.wrap (i+1)=i+1:=Am _ (by omega);have η:=bX c i q1 hi;rw[←q3]at η;have hql:Q.length<=4:=by rw[q3,ax];omega
    refine' bq @Ep @GQ @YV hi L
    all_goals first|omega|exact η.symm|(simp;done)
   ·have hQ:Q=c.queue0:=by
     rw[q3,hU];unfold GCode.queue0 GCode.starts;simp;omega
    have hb:b=false:=by
     rw[q4,hQ];unfold GCode.queue0 GCode.starts
     cases r:c.words.length with
     |zero=>omega
     |succ n=>simp[hX]
    subst hb;refine' HM hi
    all_goals(try omega)
    refine BN (α:=Nat×(List Ee)×G3) (l0:=?l2) (m0:=?m2) (fun x=>[]) (fun x=>[(38,.row 94 5 false (EV x.2.1)),(23,.map xB (Ej x.2.2))]) (fun x=>Jl c x.2.1 (x.2.2.map (·.1))/\x.1<=600/\(∀e,e∈x.2.2->1<=e.2/\e.2+x.1<=600)/\R7 x.2.1 (x.2.2.map (·.1))<x.1/\c.bfs x.1 x.2.1 (x.2.2.map (·.1))=R) (fun x=>x.1) (600,?a2_1,[]) ?h02 ?he2 ?he22 ?hI2 ?step2
    case h02=>(simp -implicitDefEqProofs only[go_sem,Ep];rfl)
    case he2=>rfl
    case he22=>rfl
    case' step2=>(rintro⟨k,Q,m⟩ hI2;try dsimp only at hI2)
    case' hI2=>try dsimp only
    ·refine⟨by rw[hQ];exact Jl.start h,by omega,fun e he=>(by cases he),?_,by rw[hQ];exact υ.symm⟩;rw[hQ];unfold R7 GCode.queue0 GCode.starts;simp;omega
    ·obtain⟨j,q8,q5,q6,Y⟩:=hI2
     cases Q with
     |nil =>
      have hr:R=none:=by
       rw[←Y]
       cases k with
       |zero=>rfl
       |succ k=>rfl
      rw[hr];simp only;refine' MX @Ep @eE
      all_goals first|omega|rfl
     |cons t Q' =>
      obtain⟨⟨a,z,o⟩,s0,d⟩:=t;obtain⟨k',rfl⟩:∃k',k=k'+1:=⟨k-1,by omega⟩
      have β:0<(((a,z,o),s0,d)::Q').length:=by simp
      have Z:(((a,z,o),s0,d)::Q')[0]?.getD default=((a,z,o),s0,d):=by simp
      have ε:(((a,z,o),s0,d)::Q').drop 1=Q':=rfl;have hbl:Q'.length<=600:=by unfold R7 at q6;simp only[List.length_cons]at q6;omega
      have χ:m.length<=104:=by have:=j.len h;simpa using this
      have hdl:d.length<=104:=by have:=j.f ((a,z,o),s0,d) (by simp);simp at this;omega
      have S:c.RunOk (a,z,o):=by
       obtain⟨a1,a2,a3⟩:=j.a ((a,z,o),s0,d) (by simp);exact path_ok h (start_ok h a1) a2 a3
      have p:c.bfs (k'+1) (((a,z,o),s0,d)::Q') (m.map (·.1))=if(a,z,o)∈m.map (·.1)then c.bfs k' Q' (m.map (·.1))else match c.bfsW ((a,z,o),s0,d) c.W 0 Q' with
       |.bad s d=>some (s,d)
       |.go Q2=>c.bfs k' Q2 (m.map (·.1)++[(a,z,o)]):=rfl
      have γ:=fun q=>j.old (t:=((a,z,o),s0,d)) q
      have ζ:=fun Q2 q hq=>j.new (t:=((a,z,o),s0,d)) (Q':=Q2) h q hq
      have δ:R7 (((a,z,o),s0,d)::Q') (m.map (·.1))=R7 Q' (m.map (·.1))+1:=by unfold R7;simp;omega
      obtain⟨QQ,σ⟩:∃QQ,((a,z,o),s0,d)::Q'=QQ:=⟨_,rfl⟩
      rw[σ]at β Z ε q6 Y p δ ⊢;have θ:(0:Int)<QQ.length:=by omega
      refine' P4 @Ep @GQ @Y5 Z β θ @nF (aI @aW ε)
      all_goals(try omega)
      by_cases q:(a,z,o)∈m.map (·.1)
      ·rw[if_pos q]at p
       obtain⟨v,hv⟩:∃v,F9 (a,z,o) m=some v:=by
        cases hl:F9 (a,z,o) m with
        |none=>exact absurd q (Vb.1 hl)
        |some v=>exact⟨v,rfl⟩
       have κ:=q5 _ (kq hv);simp only at κ;refine ru (by omega) (v:=v) (by omega) hv ?_;have B:=Xs a z o (v+1) m;have ρ:1<v+1:=by omega
       refine' MX B ρ
       all_goals(try omega)
       have l:(Iu (a,z,o) (v+1) m).map (·.1)=m.map (·.1):=by rw[j8,if_pos q]
       refine⟨(k',Q',Iu (a,z,o) (v+1) m),rfl,⟨?_,?_,?_,?_,?_⟩,hY _⟩
       ·show Jl c Q' ((Iu (a,z,o) (v+1) m).map (·.1));rw[l];exact γ q
       ·show k'<=600;omega
       ·intro e he;show 1<=e.2/\e.2+(k':Int)<=600;rcases nu he with rfl|J
        ·simp only;omega
        ·have:=q5 e J;omega
       ·show R7 Q' ((Iu (a,z,o) (v+1) m).map (·.1))<k';rw[l];omega
       ·show c.bfs k' Q' ((Iu (a,z,o) (v+1) m).map (·.1))=R;rw[l,←p];exact Y
      ·rw[if_neg q]at p;have y:=Vb.2 q;refine rv (by omega) y ?_;have B:=Xs a z o 1 m;rw[nq y 1]at B;have T:=Fj c (by omega);rw[An,Ak,N6]at T;have ψ:=ABQ h;obtain⟨G,M⟩:∃G,c.bfsW ((a,z,o),s0,d) c.W 0 Q'=G:=⟨_,rfl⟩
       refine' Gj B @An @Ak @BB;repeat' first|(refine' BJ;(first|refine AF T ?_)<;>refine' Gj B @An @Ak @BB)|refine' BI|done
       all_goals(try omega)
       refine BN (α:=Int×(List Ee)) (l0:=?l3) (m0:=?m3) (fun x=>[(62,.d (.int .i64 x.1))]) (fun x=>[(38,.row 94 5 false (EV x.2))]) (fun x=>(0<=x.1/\x.1<=c.W)/\x.2.length<=600+x.1/\c.bfsW ((a,z,o),s0,d) (c.W-x.1.toNat) x.1 x.2=G) (fun x=>(c.W-x.1).toNat) (?a3_0,?a3_1) ?h03 ?he3 ?he23 ?hI3 ?step3
       case h03=>(simp -implicitDefEqProofs only[go_sem,Ep];rfl)
       case he3=>rfl
       case he23=>rfl
       case' step3=>(rintro⟨w,Qp⟩ hI3;try dsimp only at hI3)
       case' hI3=>try dsimp only
       ·exact⟨⟨by omega,by omega⟩,by omega,M⟩
       ·obtain⟨⟨p1,p2⟩,p4,X⟩:=hI3
        by_cases r:w<c.W
        ·have L:IntKind.i64.wrap (w+1)=w+1:=Am _ (by omega);have A:c.isWord w=true:=word_iff.1 ⟨p1,by omega⟩
         by_cases u:d=[]
         ·have e:D.list d.isEmpty (Ad d)=.list true []:=by rw[u];rfl
          have cl:=UU;have ι:=c.stepR (a,z,o) w;have cs:=IR c h (a,z,o) S w A;rw[FM,FN]at cs
          cases hs:c.stp (a,z,o) w with
          |none =>
           obtain⟨⟨u1,u2,u3⟩,hu⟩:=U' hs;rw[hu,FM,FN]at cs;have hb:=YG (t:=((a,z,o),s0,d)) (Qp:=Qp) p1 r hs;rw[X]at hb;rw[hb]at M;have O:R=some (s0,d++[w]):=by rw[←Y,p,M]
           rw[u,List.nil_append]at O;rw[O];simp only;refine' QX @An @Ak e @N6 r L;repeat' first|(refine' BJ;(first|refine AF cl ?_|refine AF T ?_|refine AF cs ?_)<;>refine' QX @An @Ak e @N6 r L)|refine' BI|done
           all_goals first|omega|rfl
          |some r' =>
           obtain⟨u1,u2,u3⟩:=r';rw[U_ hs,FM,FN]at cs;have hb:=YF (t:=((a,z,o),s0,d)) (Qp:=Qp) p1 r hs;rw[X]at hb
           have U:c.bfsW ((a,z,o),s0,d) (c.W-(w+1).toNat) (w+1) (Qp++[((u1,u2,u3),s0,[w])])=G:=by
            have e9:d++[w]=[w]:=by rw[u];rfl
            rw[←e9];exact hb.symm
           refine' EP @An @Ak e @N6 r L @Ep (aI @GQ (aI @IY @IX));repeat' first|(refine' BJ;(first|refine AF cl ?_|refine AF T ?_|refine AF cs ?_)<;>refine' EP @An @Ak e @N6 r L @Ep (aI @GQ (aI @IY @IX)))|refine' BI|done
           all_goals first|omega|exact hb|exact U|(simp;omega)
         ·have e:D.list d.isEmpty (Ad d)=.list false (Ad d):=by cases d with|nil=>exact absurd rfl u|cons _ _=>rfl
          have ν:0<d.length:=by cases d with|nil=>exact absurd rfl u|cons _ _=>simp
          have cl:=UT d (by omega) ν;have ι:=c.stepR (a,z,o) w;have cs:=IR c h (a,z,o) S w A;rw[FM,FN]at cs
          cases hs:c.stp (a,z,o) w with
          |none =>
           obtain⟨⟨u1,u2,u3⟩,hu⟩:=U' hs;rw[hu,FM,FN]at cs;have hb:=YG (t:=((a,z,o),s0,d)) (Qp:=Qp) p1 r hs;rw[X]at hb;rw[hb]at M;have O:R=some (s0,d++[w]):=by rw[←Y,p,M]
           skip
           rw[O];simp only;refine' QX @An @Ak e @N6 r L;repeat' first|(refine' BJ;(first|refine B_ ([]) ([((7,1),(68,1))]) (cl) ?_|refine AF T ?_|refine AF cs ?_)<;>refine' QX @An @Ak e @N6 r L)|refine' BI|done
           all_goals first|omega|rfl
          |some r' =>
           obtain⟨u1,u2,u3⟩:=r';rw[U_ hs,FM,FN]at cs;have hb:=YF (t:=((a,z,o),s0,d)) (Qp:=Qp) p1 r hs;rw[X]at hb;have U:=hb.symm;refine' EP @An @Ak e @N6 r L @Ep (aI @GQ (aI @IY @IX));repeat' first|(refine' BJ;(first|refine B_ ([]) ([((7,1),(68,1))]) (cl) ?_|refine AF T ?_|refine AF cs ?_)<;>refine' EP @An @Ak e @N6 r L @Ep (aI @GQ (aI @IY @IX)))|refine' BI|done
           all_goals first|omega|exact hb|exact U|(simp;omega)
        ·have φ:c.W-w.toNat=0:=by omega
         rw[φ,GCode.bfsW]at X;rw[←X]at M;rw[M]at p;have j':=ζ Qp q M;have μ:=j'.len h;obtain⟨N,τ,ξ,_⟩:=Up M;have ω:Qp.length=Q'.length+c.W:=by rw[τ];simp[ξ]
         have l:(m++[((a,z,o),(1:Int))]).map (·.1)=m.map (·.1)++[(a,z,o)]:=by simp
         have hkl:(m.map (·.1)).length=m.length:=by simp
         refine' FS @N6 r;repeat' first|(refine' BJ;(first|refine AF T ?_)<;>refine' FS @N6 r)|refine' BI|done
         all_goals(try omega)
         refine⟨(k',Qp,m++[((a,z,o),1)]),rfl,⟨?_,?_,?_,?_,?_⟩,hY _⟩
         ·show Jl c Qp ((m++[((a,z,o),(1:Int))]).map (·.1));rw[l];exact j'
         ·show k'<=600;omega
         ·intro e he;show 1<=e.2/\e.2+(k':Int)<=600;rcases aa.1 he with J|J
          ·have:=q5 e J;omega
          ·rw[List.mem_singleton.1 J];simp only;omega
         ·show R7 Qp ((m++[((a,z,o),(1:Int))]).map (·.1))<k';rw[l];unfold R7 at q6 δ ⊢;rw[ea,List.length_singleton]at μ ⊢;omega
         ·show c.bfs k' Qp ((m++[((a,z,o),(1:Int))]).map (·.1))=R;rw[l,←Y,p]
end
section
theorem vK:lI.code.bfsR=none:=by decide +kernel
theorem xA{c:Ag}(h:c.ok=true){d:List Int}(j:aG c d=0):(Wf c d).length=c.tot/\∀i,i<c.syms->∃s:Nat,((Wf c d).drop (c.mark.length+i*c.code.sz)).take c.code.sz=c.code.stm s:=by
 have hk:=J5 h
 have hs:ao c.L c.P c.Q d=0:=by
  unfold aG at j;rw[if_pos h]at j
  by_cases e:ao c.L c.P c.Q d=0
  ·exact e
  ·rw[if_neg e]at j;omega
 have l:Wf c d=Mv c (Z6 c.L c.P c.Q d):=by unfold Wf;rw[if_pos h,if_pos hs]
 have hl:=UZ hk.wev hs;refine⟨by rw[l,iJ,hl];rfl,fun i hi=>?_⟩;have hp:=bJ c (DL c.seed (Z6 c.L c.P c.Q d)) [] i (by rw[D7,hl];exact hi);rw[i5]at hp;unfold Ag.part at hp;rw[i7]at hp;exact⟨_,by rw[l];exact hp⟩
attribute [local irreducible] IntKind.wrap Ah ay and or
theorem eO:BU E0 SE [] (.bool true):=by
 have c1:=Q6;have c2:=G2 lI false [1];have e1:aG lI [1]=0:=by unfold aG;rw[if_pos zU,if_pos AA9]
 rw[AA8,e1]at c2;have i:=Q8;have j:=cm;rw[Aj,Ao]at i j;have l:=UR lI.code
 have n:lI.code.holdsT=.tup [.bool true,.agg [.int .i64 0,.list true []],.int .i64 0]:=by
  unfold GCode.holdsT GCode.holdsD;rw[if_pos (by decide +kernel),vK]
 rw[n]at l;have e:=Gp false false zy zy;rw[decide_eq_true rfl]at e;obtain⟨W,o⟩:∃W,zy=W:=⟨_,rfl⟩
 have h:zy.isEmpty=false:=rfl;rw[h]at c2;rw[o]at c1 c2 e;refine AL Vt AR (by simp) fun m=>?_
 rw[AN];unfold PD;have hc:IU lI=.agg (dT lI):=rfl;refine' Gj @Ab @Aa @An @Ak;repeat' first|(refine' BJ;(first|refine AF c1 ?_|refine AF c2 ?_|refine AF i ?_|refine AF j ?_|refine AF l ?_|refine AF e ?_)<;>refine' Gj @Ab @Aa @An @Ak)|refine' BI|done
 all_goals first|rfl|omega
end
section
def W_(c:Ag)(a b:List Int)(i:Nat):Nat:=if c.part a 0 i=c.part b 0 i then 0 else 1
theorem vu(c:Ag)(a b:List Int)(i:Nat):W_ c a b i<=1:=by unfold W_;split<;>omega
attribute [local irreducible] IntKind.wrap Ah ay and or
theorem Qo(nl:Bool)(xs:List Int):BU E0 Mf [.list nl (Ad xs)] (.bool (Pz xs)):=by
 have c1:=Jt nl xs;refine AL RU AR (by simp) fun j=>?_
 rw[AN];unfold Kf Pz;obtain⟨sb,i⟩:∃sb,Ap xs=sb:=⟨_,rfl⟩
 rw[i]at c1 ⊢
 by_cases hl:xs.length<=1000
 ·have e:(xs.length:Int)<=1000:=by omega
  refine' J6 e;repeat' first|(refine' BJ;(first|refine AF c1 ?_)<;>refine' J6 e)|refine' BI|done
  all_goals first|rfl|(rename_i h;rw[h];simp[hl];done)|skip
 ·have e:¬(xs.length:Int)<=1000:=by omega
  refine' J6 e;repeat' first|(refine' BJ;(first|refine AF c1 ?_)<;>refine' J6 e)|refine' BI|done
  all_goals first|rfl|(simp[hl];done)|skip
end
theorem mF{L P:Nat}(y:L<=15){w r c:List F}{mk:List Nat}(p:w.length=L)(h2:r.length=L)(hc:c.length=L)(hm:gt L mk)(h1:sE L P r)(m:sE L P c)(h:mk.length+(P7 L r w mk).length+(P7 L c w mk).length<=P):r=c:=by
 have hs:=RO L c w mk;have l:=RO L r w mk;obtain⟨at_,n⟩:∃at_,mk++((P7 L r w mk)++(P7 L c w mk).filter fun j=>!(P7 L r w mk).contains j)=at_:=⟨_,rfl⟩
 refine X' y (at_:=at_) h2 hc ?_ ?_ h1 m fun j i=>?_
 ·rw[←n];refine⟨j0.2 ⟨FB hm.asc,j0.2 ⟨FB l.asc,(FB hs.asc).filter _,fun a o b hb e=>?_⟩,fun a o b hb e=>?_⟩,fun j i=>?_⟩
  ·simp at hb;exact hb.2 (e▸o)
  ·subst e;rcases aa.1 hb with hb|hb
   ·exact l.un a hb o
   ·exact hs.un a (az.1 hb).1 o
  ·rcases aa.1 i with i|i
   ·exact hm.lt j i
   ·rcases aa.1 i with i|i
    ·exact l.lt j i
    ·exact hs.lt j (az.1 i).1
 ·rw[←n];have:=List.length_filter_le (fun j=>!(P7 L r w mk).contains j) (P7 L c w mk);simp only[ea];omega
 ·rw[←n]at i;simp only[aa,not_or,az]at i;obtain⟨t,q,x⟩:=i;have u:j∉P7 L c w mk:=fun hh=>x ⟨hh,by simpa using q⟩
  exact(RP h2 p (fun e=>(aa.1 e).elim t q)).trans (RP hc p (fun e=>(aa.1 e).elim t u)).symm
theorem gB{L P:Nat}(l:L<=15){w R r:List F}{mk:List Nat}(j:w.length=L)(i:R.length=L)(hm:gt L mk)(e:sE L P w)(hd:Rr L P R mk=some r)(h:(P7 L w R mk).length+mk.length+P/2<=P):r=w:=by
 obtain⟨h1,h2,m⟩:=RR i hm hd;exact mF l i h2 j hm h1 e (by omega)
theorem bh{l p q:Nat}(hl:l<=15)(m:p<l)(j:0<q){d R:List F}{ms:List Nat}(hd:d.length=(l-p)*q)(o:R.length=l*q)(hm:gt (l*q) ms)
  (h:∀k,k<q->(P7 l (H9 p (Cp (l-p) q k d)) (Cp l q k R) (TZ q k ms)).length+(TZ q k ms).length+p/2<=p):ir l p q R ms=some d\/ir l p q R ms=none:=by
 by_cases i:∀k,k<q->(iu l p q R ms k).isSome=true
 ·left
  have n:∀k,k<q->iu l p q R ms k=some (H9 p (Cp (l-p) q k d)):=fun k hk=>by
   have e:=Cu (l-p) q k d;have hc:=dC p (Cp (l-p) q k d);rw[e,show l-p+p=l by omega]at hc
   cases hg:iu l p q R ms k with
   |none=>have:=i k hk;rw[hg]at this;cases this
   |some r =>
    congr 1;exact gB hl (by rw[JC,e];omega) (Cu ..) (Y7 j hm) hc hg (h k hk)
  rw[ft i];congr 1
  rw[WB j (V:=fun k=>Cp (l-p) q k d) fun k hk=>by
   rw[RG (n k hk)];unfold H9
   rw[List.take_append_of_le_length (by rw[Cu];omega),hU (by rw[Cu];omega)]]
  exact dY j hd
 ·right;unfold ir;rw[if_neg i]
theorem jD(f g:Nat->Nat)(q:Nat):∀n k,Gz f q n k+Gz g q n k=Gz (fun i=>f i+g i) q n k
 |0,_=>rfl
 |n+1,k=>by
  have ih:=jD f g q n k;show Gz f q n k+(if n%q=k then f n else 0)+(Gz g q n k+(if n%q=k then g n else 0))=Gz (fun i=>f i+g i) q n k+(if n%q=k then f n+g n else 0);rw[←ih];split<;>omega
theorem kI{c:Ag}(hk:LU c){l p q:Nat}{e:List F}(h1:c.L=(l:Int))(h2:c.P=(p:Int))(X:c.Q=(q:Int))(b2:l<=15)(M:p<l)(Y:1<=q)(U:e.length=(l-p)*q)(hs:c.syms=l*q)
  {n:List (Option Nat)}(hl:n.length=c.syms) {f:Nat->Nat}
  (T:∀i,i<l*q->n[i]?.getD none≠some ((DL c.seed (iv (XS l p q e)))[i]?.getD 0).toNat->1<=f i)
  (hc:∀k,k<q->Gz f q (l*q) k+p/2<=p):(Z9 c n=0/\fj c n=iv e)\/Z9 c n=52:=by
 obtain⟨O,N⟩:=xT hk h1 h2 X hs hl;have G:(XS l p q e).length=l*q:=Yc ..;have z:(fs (DL c.seed (Q_ n))).length=l*q:=by rw[ZE,D7,GG,hl,hs]
 obtain⟨mB,r⟩:∃mB:Nat->Bool,mB=fun i=>(n[i]?.getD none).isNone:=⟨_,rfl⟩
 obtain⟨wB,o⟩:∃wB:Nat->Bool,wB=fun i=>decide (n[i]?.getD none≠some ((DL c.seed (iv (XS l p q e)))[i]?.getD 0).toNat) && !mB i:=⟨_,rfl⟩
 have u:mq n=(eb (l*q)).filter mB:=by rw[r];unfold mq;rw[hl,hs]
 have key:=bh (l:=l) (p:=p) (q:=q) (R:=fs (DL c.seed (Q_ n))) (ms:=(eb (l*q)).filter mB) b2 M (by omega) U z (VZ mB _) fun k m=>by
  have d1:=jA (a:=[]) (wB:=wB) (mB:=mB) (R:=fs (DL c.seed (Q_ n))) (W:=fun k=>H9 p (Cp (l-p) q k e)) (l:=l) m fun j J hne A=>by
   have t:=Tk m J
   have S:(XS l p q e)[j*q+k]?.getD 0=(H9 p (Cp (l-p) q k e))[j]?.getD 0:=by
    unfold XS;rw[R6 _ t,ZV m,Vq m]
   rw[o];simp only[A,Bool.not_false,Bool.and_true,decide_eq_true_eq];intro x;have hx:0<=(DL c.seed (iv (XS l p q e)))[j*q+k]?.getD 0:=(KY _ _ _ (D6 (by rw[D7,Lm,G];exact t))).1;exact hne (S.symm.trans (oA (by omega) (by omega) x (by omega)).symm)
  have d2:=Y8 mB (q:=q) k (l*q)
  have d3:Gz f q (l*q) k>=Qm (fun i=>if wB i then 1 else 0) q l k+Gz (fun i=>if mB i then 1 else 0) q (l*q) k:=by
   rw[←R0 _ m,jD];refine V8 (fun i hi=>?_) k
   by_cases y:n[i]?.getD none=some ((DL c.seed (iv (XS l p q e)))[i]?.getD 0).toNat
   ·have:mB i=false:=by rw[r];simp only[y];rfl
    have B:wB i=false:=by rw[o];simp[y]
    rw[this,B];simp
   ·have:=T i hi y
    cases hm:mB i with
    |true =>
     have B:wB i=false:=by rw[o];simp[hm]
     rw[B];simpa using this
    |false=>simp only[Bool.false_eq_true,if_false,Nat.add_zero];split<;>omega
  have:=hc k m;omega
 rw[O,N,u];rcases key with h|h
 ·left;rw[h];exact⟨rfl,rfl⟩
 ·right;rw[h];rfl
theorem rK{c:Ag}(hk:LU c){b:List Int}(hb:b.length=c.syms){R:List Int}{i:Nat}(hi:i<c.syms)(h:(c.syL R 0)[i]?.getD none≠some ((DL c.seed b)[i]?.getD 0).toNat):W_ c (Mv c b) R i=1:=by
 unfold W_;rw[if_neg];intro e;have h1:=yF hk hb [] hi;rw[i5,eL hi,e,←eL hi]at h1;exact h h1
theorem jC(f:Nat->Nat)(q:Nat):∀n k,Gz (fun i=>2*f i) q n k=2*Gz f q n k
 |0,_=>rfl
 |n+1,k=>by
  have ih:=jC f q n k;show Gz (fun i=>2*f i) q n k+(if n%q=k then 2*f n else 0)=2*(Gz f q n k+(if n%q=k then f n else 0));rw[ih];split<;>omega
theorem kD{c:Ag}(hk:LU c){d:List Int}(y:ao c.L c.P c.Q d=0){R:List Int}
  {n:Nat}(hn:∀k,k<c.Q.toNat->Gz (W_ c (Mv c (Z6 c.L c.P c.Q d)) R) c.Q.toNat c.syms k<=n) :
  (2*n<=c.P.toNat->Z9 c (c.syL R 0)=0/\fj c (c.syL R 0)=d)/\(n+c.P.toNat/2<=c.P.toNat->(Z9 c (c.syL R 0)=0/\fj c (c.syL R 0)=d)\/Z9 c (c.syL R 0)=52):=by
 have j:=UZ hk.wev y;obtain⟨l,p,q,e,h1,h2,t,b1,b2,A,B,u,x,G,rfl,r,o,hs⟩:=iG hk y;have z:c.Q.toNat=q:=by rw[t];rfl
 have hp:c.P.toNat=p:=by rw[h2];rfl
 rw[z]at hn;rw[hp];refine⟨fun h=>?_,fun h=>?_⟩
 ·refine oV hk h1 h2 t b2 u x r hs (UY ..) (f:=fun i=>2*W_ c (Mv c (Z6 c.L c.P c.Q (iv e))) R i) (fun i hi hne=>?_) fun k m=>?_
  ·rw[o]at j ⊢;rw[rK hk j (by omega) hne];split<;>omega
  ·rw[jC,←hs];have:=hn k m;omega
 ·refine kI hk h1 h2 t b2 u x r hs (UY ..) (f:=W_ c (Mv c (Z6 c.L c.P c.Q (iv e))) R) (fun i hi hne=>?_) fun k m=>?_
  ·rw[o]at j ⊢;rw[rK hk j (by omega) hne];omega
  ·rw[←hs];have:=hn k m;omega
section
theorem tU{c:Ag}(hok:c.ok=true){R:List Int}(hb:Pz R=true){a:Nat}(e:c.find R=some a):kJ c R=.tup [.list (fj c (c.syL R a)).isEmpty (Ad (fj c (c.syL R a))),.int .i64 (if Z9 c (c.syL R a)=0 then(a:Int)else 0),.int .i64 (Z9 c (c.syL R a))]:=by
 unfold kJ iR oX oW;simp only[hok,hb,if_true,e]
theorem n8{c:Ag}(hk:LU c)(b:List Int):Ap (Mv c b)=true:=by
 unfold Mv;refine J9 hk.markl.2.2 ?_;unfold Ag.flat;generalize DL c.seed b=X
 induction X with
 |nil=>rfl
 |cons x X ih=>exact J9 (nP ..) ih
attribute [local irreducible] IntKind.wrap Ah ay and or
end
theorem bN(f:Nat->Nat)(h1:∀i,f i<=1)(q k:Nat):∀m,Qm f q m k<=((eb m).filter fun j=>decide (f (j*q+k)≠0)).length
 |0=>j4 0
 |m+1=>by
  have ih:=bN f h1 q k m;have:=h1 (m*q+k);rw[hX,List.filter_append,ea];show Qm f q m k+f (m*q+k)<=_
  by_cases h:f (m*q+k)=0
  ·rw[h];omega
  ·have:([m].filter fun j=>decide (f (j*q+k)≠0)).length=1:=by simp[h]
   omega
theorem ve{q k a t l:Nat}(hk:k<q){f:Nat->Nat}(h1:∀i,f i<=1)(h2:∀i,i<l*q->f i≠0->a<=i/\i<a+q*t):Gz f q (l*q) k<=t:=by
 rw[R0 f hk];refine Nat.le_trans (bN f h1 q k l) ?_;refine mT (a:=a) hk (j4 _) (List.Pairwise.filter _ List.nodup_range) fun j e=>?_
 rw[az,List.mem_range,decide_eq_true_eq]at e;exact h2 _ (Tk hk e.1) e.2
theorem kl{c:Ag}(hk:LU c){b:List Int}{S R:List Int}(h:S=Mv c b)(n:R.length=c.tot)(hm:∀k,k<c.mark.length->R[k]?.getD 0=S[k]?.getD 0):c.find R=some 0:=by
 have ht:c.tot=c.mark.length+c.syms*c.code.sz:=rfl;refine Sp.2 ⟨by omega,?_,fun j o=>by omega⟩
 have h1:R=c.mark++R.drop c.mark.length:=by
  have h2:R.take c.mark.length=c.mark:=by
   apply kk
   ·rw[ax];omega
   ·intro k e i;have l:=hm k i;rw[et]
    have m:S[k]?.getD 0=c.mark[k]:=by
     rw[h];unfold Mv;rw[List.getElem?_append_left i,ck i];rfl
    rw[m,ck (by rw[ax]at e;omega)]at l;exact l
  have e:=(List.take_append_drop c.mark.length R).symm;rw[h2]at e;exact e
 rw[List.drop_zero,h1,dJ];exact hk.errs.1
theorem Xi{c:Ag}{S R:List Int}(l:S.length=c.tot)(j:R.length=c.tot){i:Nat}(hi:i<c.syms)(h:∀t,t<c.code.sz->R[c.mark.length+i*c.code.sz+t]?.getD 0=S[c.mark.length+i*c.code.sz+t]?.getD 0):c.part S 0 i=c.part R 0 i:=by
 have h1:(i+1)*c.code.sz<=c.syms*c.code.sz:=cp _ hi;rw[cw]at h1;have ht:c.tot=c.mark.length+c.syms*c.code.sz:=rfl;unfold Ag.part;rw[i7];apply kk
 ·rw[ax,ax,f0,f0];omega
 ·intro t h2 m;rw[et,et,la,la];rw[ax,f0]at h2;have e:=h t (by omega);rw[ck (by omega),ck (by omega)]at e;exact e.symm
def ej(S:List Int)(b:Nat)(A:List Int):Nat->List Int
 |0=>S
 |n+1=>(ej S b A n).set (b+n) (Ah .xor .i64 ((ej S b A n)[b+n]?.getD 0) (A[n]?.getD 0))
theorem OW(S:List Int)(b:Nat)(A:List Int):∀n,(ej S b A n).length=S.length
 |0=>rfl
 |n+1=>by unfold ej;rw[List.length_set,OW S b A n]
theorem iK(S:List Int)(b:Nat)(A:List Int){j:Nat}:∀n,(j<b\/b+n<=j)->(ej S b A n)[j]?.getD 0=S[j]?.getD 0
 |0,_=>rfl
 |n+1,h=>by
  unfold ej;rw[List.getElem?_set_ne (by omega)];exact iK S b A n (by omega)
theorem bM{S:List Int}(h:Ap S=true)(b:Nat){A:List Int}(e:Ap A=true):∀n,n<=A.length->b+n<=S.length->Ap (ej S b A n)=true
 |0,_,_=>h
 |n+1,h1,h2=>by
  have ih:=bM h b e n (by omega) (by omega);unfold ej;refine de ih _ ?_;have hl:=OW S b A n;rw[UV (Fk ih (by omega)) (Fk e (by omega))];simp only[Cw,decide_eq_true_eq];split<;>omega
theorem Yr{c:Ag}(hk:LU c){d:List Int}(X:ao c.L c.P c.Q d=0){S R:List Int}(o:S=Mv c (Z6 c.L c.P c.Q d)){fr:Nat}{A:List Int}
  (y:(A.length:Int)<=XA c) (ε:c.mark.length+fr+A.length<=c.tot) (hR:R=ej S (c.mark.length+fr) A A.length):c.find R=some 0/\Z9 c (c.syL R 0)=0/\fj c (c.syL R 0)=d:=by
 have Z:=UZ hk.wev X;have ht:c.tot=c.mark.length+c.syms*c.code.sz:=rfl;have r:S.length=c.tot:=by rw[o,iJ,Z];rfl
 have n:R.length=c.tot:=by rw[hR,OW,r]
 have m:∀j,(j<c.mark.length+fr\/c.mark.length+fr+A.length<=j)->R[j]?.getD 0=S[j]?.getD 0:=fun j hj=>by rw[hR];exact iK _ _ _ _ hj
 refine⟨kl hk o n fun k γ=>m k (.inl (by omega)),?_⟩;obtain⟨l,p,q,e,h1,h2,Y,b1,b2,b3,b4,b5,b6,b7,η,δ,β,N⟩:=iG hk X;have hq:c.Q.toNat=q:=by rw[Y];rfl
 have M:c.P.toNat=p:=by rw[h2];rfl
 have hz:=Ir hk.code
 have G:∀k,k<c.Q.toNat->Gz (W_ c S R) c.Q.toNat c.syms k<=p/2:=fun k z=>by
  rw[hq]at z ⊢;rw[N];refine ve (a:=fr/c.code.sz) z (vu c S R) fun i hi hne=>?_
  have B:i<c.syms:=by omega
  have u:¬(i*c.code.sz+c.code.sz<=fr\/fr+A.length<=i*c.code.sz):=fun h=>by
   apply hne;unfold W_;rw[if_pos];exact Xi r n B fun t J=>m _ (by omega)
  have α:A.length≠0:=fun h0=>u (by
   rcases c8 fr (i*c.code.sz+c.code.sz)with h|h
   ·rcases c8 fr (i*c.code.sz)with h'|h'
    ·right;omega
    ·exfalso;apply hne;unfold W_;rw[if_pos];exact Xi r n B fun t J=>m _ (by omega)
   ·left;exact h)
  have U:=Nat.div_add_mod fr c.code.sz;have θ:=Nat.mod_lt fr (show 0<c.code.sz by omega);rw[Nat.mul_comm]at U
  have hlo:fr/c.code.sz<=i:=by
   rcases c8 i (fr/c.code.sz)with h|h
   ·exfalso;have:=cp c.code.sz (show i+1<=fr/c.code.sz from h);rw[cw]at this;exact u (.inl (by omega))
   ·exact h
  refine⟨hlo,?_⟩;have hh:c.Q*(c.P/2)=((q*(p/2):Nat):Int):=by rw[Y,h2];push_cast;rfl
  unfold XA at y;rw[hh]at y
  by_cases h0:q*(p/2)=0
  ·rw[h0,if_pos (by rfl)]at y;omega
  ·rw[if_neg (by omega)]at y;have ζ:q*(p/2)<q*l:=Nat.mul_lt_mul_of_pos_left (by omega) (by omega);have O:c.Q*c.L=((q*l:Nat):Int):=by rw[Y,h1];push_cast;rfl
   rw[O,if_neg (by omega)]at y;obtain⟨h,T⟩:∃h,q*(p/2)=h+1:=⟨q*(p/2)-1,by omega⟩
   rw[T]at y ⊢
   have ι:A.length<=h*c.code.sz+1:=by
    have:((h+1:Nat):Int)-1=(h:Int):=by omega
    rw[this,←Int.natCast_mul]at y;omega
   rcases c8 i (fr/c.code.sz+(h+1))with x|x
   ·exact x
   ·exfalso;have:=cp c.code.sz x;rw[Nat.add_mul,cw]at this;exact u (.inr (by omega))
 have key:=@kD c hk d X R (p/2) (by rw[←o];exact G);exact key.1 (by rw[M];omega)
theorem wO{c:Ag}(hk:LU c):0<=XA c/\XA c<=((c.syms*c.code.sz:Nat):Int):=by
 have hs:=hk.syms;have e:=Ir hk.code;have hp:=xH hk.wev;unfold XA;obtain⟨h,hh⟩:∃h:Nat,c.Q*(c.P/2)=(h:Int):=⟨(c.Q*(c.P/2)).toNat,by omega⟩
 rw[hh,hs.2.2]
 by_cases h0:(h:Int)=0
 ·rw[if_pos h0];omega
 ·rw[if_neg h0]
  by_cases h1:((c.syms:Nat):Int)<=(h:Int)
  ·rw[if_pos h1];omega
  ·rw[if_neg h1];obtain⟨g,rfl⟩:∃g,h=g+1:=⟨h-1,by omega⟩
   have h2:(g+1)*c.code.sz<=c.syms*c.code.sz:=cp _ (by omega);rw[cw]at h2;rw[show((g+1:Nat):Int)-1=(g:Int) by omega,←Int.natCast_mul];omega
end Go.Pw

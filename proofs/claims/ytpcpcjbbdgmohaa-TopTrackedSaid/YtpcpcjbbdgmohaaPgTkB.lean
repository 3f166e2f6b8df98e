/- A part of the proof. -/
import Derived.Test.YtpcpcjbbdgmohaaTkA
import Derived.Test.YtpcpcjbbdgmohaaPlPC
import Derived.Test.YtpcpcjbbdgmohaaPwYa
set_option linter.all false
section
open Go Go.Pw Go.Proofs
namespace Go.Pw
set_option maxRecDepth 100000
set_option maxHeartbeats 1600000
def Pe (a:Ao):List D:=[.int .i64 a.last,.int .i64 a.speed,.int .i64 a.force,.int .i64 a.shake,.int .i64 a.gate,.int .i64 a.slow]
def Ek (a:Ao):D:=.agg (Pe a)
def Yn (s:BT):List D:=[.int .i64 s.at',.int .i64 s.sp]
def El (s:BT):D:=.agg (Yn s)
def Jn (l:List BT):List D:=l.map El
theorem AF (a:Ao):Pe a=[.int .i64 a.last,.int .i64 a.speed,.int .i64 a.force,.int .i64 a.shake,.int .i64 a.gate,.int .i64 a.slow]:=rfl
theorem AM (a:Ao):Ek a=.agg (Pe a):=rfl
theorem AQ (s:BT):Yn s=[.int .i64 s.at',.int .i64 s.sp]:=rfl
theorem AX (s:BT):El s=.agg (Yn s):=rfl
theorem Bi (l:List BT):(Jn l).length=l.length:=by simp[Jn]
theorem EE (l:List BT):Ci 2 (Jn l)=True:=Mc fun _=>rfl
theorem Dm {l:List BT}{i:Nat}{A:D->Prop}:An (Jn l)[i]? A=(i<l.length/\A (El (l[i]?.getD default))):=Gz
theorem Iu (l:List BT) (x y:Int):Jn l++[.agg [.int .i64 x,.int .i64 y]]=Jn (l++[⟨x,y⟩]):=by simp[Jn,El,Yn]
abbrev Pm:Fm:=(true,[some .i64,some .i64])
theorem TM:Ed.noR=true:=by rfl
theorem QC {E:CI} {rs o els s}:ZE E rs o els .ret s=(Fr E s rs (fun _=>True)/\Kh els (s.V.ob o)):=rfl
theorem Lm {E:CI} {rs o els s}:ZE E rs o els .normal s=(Fr E s rs (fun _=>True)/\Kh els (s.V.ob o)):=rfl
theorem FI {els g e n st}:Kh els (some (g,.hist e n st))=(e=els/\(st=true\/n=els.length)):=rfl
attribute [local congr] DH Bv Bw BW DJ Bd Bf Be BV BH A' A0 BZ BA Ba BF Bc BG B1 CX BE B4 B5 B2 Bz B0 Bu DI Bx BX BC BB BD Bb B3
attribute [local irreducible] IntKind.wrap BR Option.getD and or
theorem Bj (n lo hi:Int):C6 E0 K8 [.int .i64 n,.int .i64 lo,.int .i64 hi] (.bool (Eg n lo hi)):=by
 refine AU NI A1 (by simp) fun hwf=>?_
 rw[Ae];unfold JR Eg
 (try (simp -implicitDefEqProofs only[go_sem]));repeat' first|(with_reducible first|exact tI|refine aI ?_ ?_|intro _)|((first|with_reducible refine AW ?_ ?_<;>intro _)<;>try (simp -implicitDefEqProofs only[go_sem]))|simp (disch:=omega) only[Au]
 all_goals first|omega|(simp_all;done)|(simp_all;omega)
theorem Bk (n lo hi:Int):C6 E0 Ia [.int .i64 n,.int .i64 lo,.int .i64 hi] (.bool (Eg n lo hi)):=by
 refine AU LT A1 (by simp) fun hwf=>?_
 rw[Ae];unfold HH Eg
 (try (simp -implicitDefEqProofs only[go_sem]));repeat' first|(with_reducible first|exact tI|refine aI ?_ ?_|intro _)|((first|with_reducible refine AW ?_ ?_<;>intro _)<;>try (simp -implicitDefEqProofs only[go_sem]))|simp (disch:=omega) only[Au]
 all_goals first|omega|(simp_all;done)|(simp_all;omega)
theorem Nz (a:Ao):C6 E0 L6 [Ek a] (.int .i64 (if a.ok then 0 else 60)):=by
 refine AU Nu A1 (by simp) fun hwf=>?_
 have c1:=Bj a.last 0 40
 have c2:=Bj a.speed 0 8
 have c3:=Bj a.force 0 4
 have c4:=Bj a.shake 0 2
 have c5:=Bj a.gate 0 4
 have c6:=Bj a.slow 0 a.speed
 rw[Ae];unfold KT Ao.ok
 generalize Eg a.last 0 40=b1 at *
 generalize Eg a.speed 0 8=b2 at *
 generalize Eg a.force 0 4=b3 at *
 generalize Eg a.shake 0 2=b4 at *
 generalize Eg a.gate 0 4=b5 at *
 generalize Eg a.slow 0 a.speed=b6 at *
 cases b1
 ·(try (simp -implicitDefEqProofs only[go_sem,AM,AF]));repeat' first|(with_reducible first|exact tI|refine aI ?_ ?_|intro _)|((first|with_reducible refine AW ?_ ?_<;>intro _|(with_reducible refine isCall ?_);first|refine AD c1 ?_)<;>try (simp -implicitDefEqProofs only[go_sem,AM,AF]))|simp (disch:=omega) only[Au]
  all_goals first|rfl|(simp;done)
 cases b2
 ·(try (simp -implicitDefEqProofs only[go_sem,AM,AF]));repeat' first|(with_reducible first|exact tI|refine aI ?_ ?_|intro _)|((first|with_reducible refine AW ?_ ?_<;>intro _|(with_reducible refine isCall ?_);first|refine AD c1 ?_|refine AD c2 ?_)<;>try (simp -implicitDefEqProofs only[go_sem,AM,AF]))|simp (disch:=omega) only[Au]
  all_goals first|rfl|(simp;done)
 cases b3
 ·(try (simp -implicitDefEqProofs only[go_sem,AM,AF]));repeat' first|(with_reducible first|exact tI|refine aI ?_ ?_|intro _)|((first|with_reducible refine AW ?_ ?_<;>intro _|(with_reducible refine isCall ?_);first|refine AD c1 ?_|refine AD c2 ?_|refine AD c3 ?_)<;>try (simp -implicitDefEqProofs only[go_sem,AM,AF]))|simp (disch:=omega) only[Au]
  all_goals first|rfl|(simp;done)
 cases b4
 ·(try (simp -implicitDefEqProofs only[go_sem,AM,AF]));repeat' first|(with_reducible first|exact tI|refine aI ?_ ?_|intro _)|((first|with_reducible refine AW ?_ ?_<;>intro _|(with_reducible refine isCall ?_);first|refine AD c1 ?_|refine AD c2 ?_|refine AD c3 ?_|refine AD c4 ?_)<;>try (simp -implicitDefEqProofs only[go_sem,AM,AF]))|simp (disch:=omega) only[Au]
  all_goals first|rfl|(simp;done)
 cases b5
 ·(try (simp -implicitDefEqProofs only[go_sem,AM,AF]));repeat' first|(with_reducible first|exact tI|refine aI ?_ ?_|intro _)|((first|with_reducible refine AW ?_ ?_<;>intro _|(with_reducible refine isCall ?_);first|refine AD c1 ?_|refine AD c2 ?_|refine AD c3 ?_|refine AD c4 ?_|refine AD c5 ?_)<;>try (simp -implicitDefEqProofs only[go_sem,AM,AF]))|simp (disch:=omega) only[Au]
  all_goals first|rfl|(simp;done)
 cases b6
 ·(try (simp -implicitDefEqProofs only[go_sem,AM,AF]));repeat' first|(with_reducible first|exact tI|refine aI ?_ ?_|intro _)|((first|with_reducible refine AW ?_ ?_<;>intro _|(with_reducible refine isCall ?_);first|refine AD c1 ?_|refine AD c2 ?_|refine AD c3 ?_|refine AD c4 ?_|refine AD c5 ?_|refine AD c6 ?_)<;>try (simp -implicitDefEqProofs only[go_sem,AM,AF]))|simp (disch:=omega) only[Au]
  all_goals first|rfl|(simp;done)
 ·(try (simp -implicitDefEqProofs only[go_sem,AM,AF]));repeat' first|(with_reducible first|exact tI|refine aI ?_ ?_|intro _)|((first|with_reducible refine AW ?_ ?_<;>intro _|(with_reducible refine isCall ?_);first|refine AD c1 ?_|refine AD c2 ?_|refine AD c3 ?_|refine AD c4 ?_|refine AD c5 ?_|refine AD c6 ?_)<;>try (simp -implicitDefEqProofs only[go_sem,AM,AF]))|simp (disch:=omega) only[Au]
  all_goals first|rfl|(simp;done)
theorem Lz (a:Ao) (g:a.Good) (s:BT):C6 E0 Jg [Ek a,El s] (.bool (a.has s)):=by
 refine AU MR A1 (by simp) fun hwf=>?_
 have g2:=g.s
 have c1:=Bj s.at' 0 a.last
 have c2:=Bj s.sp (-a.speed) a.speed
 have w1:IntKind.i64.wrap (0-a.speed)=-a.speed:=by rw[Aw _ (by omega)];omega
 rw[Ae];unfold H2 Ao.has
 generalize Eg s.at' 0 a.last=b1 at *
 generalize Eg s.sp (-a.speed) a.speed=b2 at *
 cases b1
 ·(try (simp -implicitDefEqProofs only[go_sem,AM,AF,AX,AQ]));repeat' first|(with_reducible first|exact tI|refine aI ?_ ?_|intro _)|((first|with_reducible refine AW ?_ ?_<;>intro _|(with_reducible refine isCall ?_);first|refine AD c1 ?_)<;>try (simp -implicitDefEqProofs only[go_sem,AM,AF,AX,AQ]))|simp (disch:=omega) only[Au]
  all_goals first|rfl|(simp;done)
 ·cases b2
  all_goals ((try (simp -implicitDefEqProofs only[go_sem,AM,AF,AX,AQ,w1]));repeat' first|(with_reducible first|exact tI|refine aI ?_ ?_|intro _)|((first|with_reducible refine AW ?_ ?_<;>intro _|(with_reducible refine isCall ?_);first|refine AD c1 ?_|refine AD c2 ?_)<;>try (simp -implicitDefEqProofs only[go_sem,AM,AF,AX,AQ,w1]))|simp (disch:=omega) only[Au] )
  all_goals first|rfl|(simp;done)
def BT.near (s:BT):Prop:=(-100<=s.at'/\s.at'<=100)/\(-100<=s.sp/\s.sp<=100)
theorem Ki {a:Ao}(g:a.Good) {s:BT}(h:a.has s=true):s.near:=by
 have:=g.l;have:=g.s
 rw[Kj] at h
 unfold BT.near;omega
theorem G_ (a:Ao) (g:a.Good) (s:BT) (hs:s.near) (c k:Int) (hc:-4<=c/\c<=4) (hk:-2<=k/\k<=2):C6 E0 Ih [Ek a,El s,.int .i64 c,.int .i64 k] (.tup [El (Nb s c k),.bool (a.has (Nb s c k))]):=by
 refine AU LY A1 (by simp) fun hwf=>?_
 obtain⟨⟨h1,h2⟩,h3,h4⟩:=hs
 have c1:=Lz a g (Nb s c k)
 have w1:IntKind.i64.wrap (c+k)=c+k:=Aw _ (by omega)
 have w2:IntKind.i64.wrap (s.sp+(c+k))=s.sp+(c+k):=Aw _ (by omega)
 have w3:IntKind.i64.wrap (s.at'+(s.sp+(c+k)))=s.at'+(s.sp+(c+k)):=Aw _ (by omega)
 obtain⟨B,hB⟩:∃B,a.has (Nb s c k)=B:=⟨_,rfl⟩
 rw[hB] at c1 ⊢
 unfold Nb at c1 ⊢
 rw[Ae];unfold HM
 cases B
 all_goals ((try (simp -implicitDefEqProofs only[go_sem,AM,AF,AX,AQ,w1,w2,w3]));repeat' first|(with_reducible first|exact tI|refine aI ?_ ?_|intro _)|((first|with_reducible refine AW ?_ ?_<;>intro _|(with_reducible refine isCall ?_);first|refine AD c1 ?_)<;>try (simp -implicitDefEqProofs only[go_sem,AM,AF,AX,AQ,w1,w2,w3]))|simp (disch:=omega) only[Au] )
 all_goals first|rfl|(simp_all;done)
theorem JW (a:Ao) (g:a.Good):Sl E0 E' [Ek a] [] (a.spots.map fun s=>[El s]):=by
 have g1:=g.l;have g2:=g.s
 have hlen:=N8 a
 obtain⟨els,hels⟩:∃els,(a.spots.map fun s=>[El s])=els:=⟨_,rfl⟩
 have hel:els.length=(a.last+1).toNat * (2*a.speed+1).toNat:=by rw[←hels,List.length_map,hlen]
 obtain⟨A,hA⟩:∃A,(a.last+1).toNat=A:=⟨_,rfl⟩
 obtain⟨M,hM⟩:∃M,(2*a.speed+1).toNat=M:=⟨_,rfl⟩
 have hget:∀i j,i<A->j<M->els[i*M+j]?=some [.agg [.int .i64 (i:Int),.int .i64 ((j:Int)-a.speed)]]:=fun i j hi hj=>by
  rw[←hels,List.getElem?_map,←hM,TN a (by rw[hA];exact hi) (by rw[hM];exact hj)];rfl
 rw[hA,hM] at hel
 rw[hels]
 refine Rc Ky A1 TM (by simp) fun hwf _=>?_
 rw[I7];unfold Ed
 have w1:IntKind.i64.wrap (a.last+1)=a.last+1:=Aw _ (by omega)
 have w2:IntKind.i64.wrap (0-a.speed)=-a.speed:=by rw[Aw _ (by omega)];omega
 (try (simp -implicitDefEqProofs only[go_sem,AM,AF,w1]));repeat' first|(with_reducible first|exact tI|refine aI ?_ ?_|intro _)|((first|with_reducible refine AW ?_ ?_<;>intro _)<;>try (simp -implicitDefEqProofs only[go_sem,AM,AF,w1]))|simp (disch:=omega) only[Au]|((with_reducible refine A6 ?_);refine⟨(_,_,_),rfl,?_,?_⟩)|((with_reducible refine BN ?_);refine⟨(_,_),rfl,?_,?_⟩)
 all_goals first|omega|(simp<;>omega)|skip
 refine A5 (α:=Nat×Nat) (l0:=?l1) (m0:=?m1) (fun x=>[(10,.d (.int .i64 (x.1:Int)))]) (fun x=>[(900001,.hist els x.2 false)]) (fun x=>x.1<=A/\x.2=x.1*M) (fun x=>A-x.1) (0,0) ?h01 ?he1 ?he21 ?hI1 ?step1
 case h01=>(simp -implicitDefEqProofs only[go_sem];rfl)
 case he1=>rfl
 case he21=>rfl
 case' step1=>(rintro⟨i,n⟩ hI;try dsimp only at hI)
 case' hI1=>try dsimp only
 ·exact⟨Nat.zero_le _,(Nat.zero_mul _).symm⟩
 ·obtain⟨i1,i2⟩:=hI
  change n=i*M at i2
  by_cases hi:i<A
  ·have hi':(i:Int)<a.last+1:=by omega
   have wi:IntKind.i64.wrap ((i:Int)+1)=((i+1:Nat):Int):=by rw[Aw _ (by omega)];omega
   (try (simp -implicitDefEqProofs only[go_sem,AF,hi',w2]));repeat' first|(with_reducible first|exact tI|refine aI ?_ ?_|intro _)|((first|with_reducible refine AW ?_ ?_<;>intro _)<;>try (simp -implicitDefEqProofs only[go_sem,AF,hi',w2]))|simp (disch:=omega) only[Au]|((with_reducible refine A6 ?_);refine⟨(_,_,_),rfl,?_,?_⟩)|((with_reducible refine BN ?_);refine⟨(_,_),rfl,?_,?_⟩)
   all_goals first|omega|(simp<;>omega)|skip
   refine A5 (α:=Nat×Int×Nat) (l0:=?l2) (m0:=?m2) (fun x=>[(5,.d (.int .i64 x.2.1))]) (fun x=>[(900001,.hist els x.2.2 false)]) (fun x=>x.1<=M/\x.2.1=(x.1:Int)-a.speed/\x.2.2=i*M+x.1) (fun x=>M-x.1) (0,(-a.speed),n) ?h02 ?he2 ?he22 ?hI2 ?step2
   case h02=>(simp -implicitDefEqProofs only[go_sem];rfl)
   case he2=>rfl
   case he22=>rfl
   case' step2=>(rintro⟨j,v,n⟩ hI2;try dsimp only at hI2)
   case' hI2=>try dsimp only
   ·exact⟨Nat.zero_le _,by show -a.speed=_;omega,i2⟩
   ·obtain⟨j1,j2,j3⟩:=hI2
    change v=(j:Int)-a.speed at j2
    change n=i*M+j at j3
    by_cases hj:j<M
    ·have hj':v<=a.speed:=by omega
     have hg:=hget i j hi hj
     rw[←j2,←j3] at hg
     have wj:IntKind.i64.wrap (v+1)=v+1:=Aw _ (by omega)
     (try (simp -implicitDefEqProofs only[go_sem,AF,hj',hg,wj,QC,FI]));repeat' first|(with_reducible first|exact tI|refine aI ?_ ?_|intro _)|((first|with_reducible refine AW ?_ ?_<;>intro _)<;>try (simp -implicitDefEqProofs only[go_sem,AF,hj',hg,wj,QC,FI]))|simp (disch:=omega) only[Au]|((with_reducible refine A6 ?_);refine⟨(_,_,_),rfl,?_,?_⟩)|((with_reducible refine BN ?_);refine⟨(_,_),rfl,?_,?_⟩)
     all_goals first|omega|(simp<;>omega)|skip
     all_goals exact⟨(j+1,v+1,n+1),rfl,⟨by show j+1<=M;omega,by show v+1=((j+1:Nat):Int)-a.speed;omega,by show n+1=i*M+(j+1);omega⟩,by show M-(j+1)<M-j;omega⟩
    ·have hj':¬v<=a.speed:=by omega
     have hn:n=(i+1)*M:=by rw[Nat.succ_mul];omega
     (try (simp -implicitDefEqProofs only[go_sem,AF,hj',wi]));repeat' first|(with_reducible first|exact tI|refine aI ?_ ?_|intro _)|((first|with_reducible refine AW ?_ ?_<;>intro _)<;>try (simp -implicitDefEqProofs only[go_sem,AF,hj',wi]))|simp (disch:=omega) only[Au]|((with_reducible refine A6 ?_);refine⟨(_,_,_),rfl,?_,?_⟩)|((with_reducible refine BN ?_);refine⟨(_,_),rfl,?_,?_⟩)
     all_goals first|omega|(simp<;>omega)|skip
  ·have hi':¬(i:Int)<a.last+1:=by omega
   have hiA:i=A:=by omega
   have hn:n=els.length:=by rw[hel,i2,hiA]
   (try (simp -implicitDefEqProofs only[go_sem,AF,hi',Lm,FI]));repeat' first|(with_reducible first|exact tI|refine aI ?_ ?_|intro _)|((first|with_reducible refine AW ?_ ?_<;>intro _)<;>try (simp -implicitDefEqProofs only[go_sem,AF,hi',Lm,FI]))|simp (disch:=omega) only[Au]|((with_reducible refine A6 ?_);refine⟨(_,_,_),rfl,?_,?_⟩)|((with_reducible refine BN ?_);refine⟨(_,_),rfl,?_,?_⟩)
   all_goals first|omega|(simp<;>omega)|skip
end Go.Pw
end
section
open Go Go.Pw Go.Proofs
namespace Go.Pw
set_option maxRecDepth 100000
set_option maxHeartbeats 3200000
def LR (es:List Ay):List (Nat×D×D):=es.map fun e=>(e.1,El e.2.1,.int .i64 e.2.2)
def R' (es:List Ay):List (D×D):=es.map fun e=>(El e.2.1,.int .i64 e.2.2)
theorem GL (es:List Ay):(LR es).map (·.2)=R' es:=by simp[LR,R']
theorem aj (x y:BT):Cd (El x) (El y)=decide (x=y):=by
 rw[Bool.eq_iff_iff,decide_eq_true_eq]
 obtain⟨a,b⟩:=x;obtain⟨c,d⟩:=y
 simp[Cd,El,Yn,D.cells,Dj,EN]
theorem Yo (es:List Ay) (x:BT):EQ (El x) (R' es)=(Co es x).map (D.int .i64):=by
 induction es with
 |nil=>rfl
 |cons e es ih =>
  show (if Cd (El x) (El e.2.1)=true then some (D.int .i64 e.2.2) else EQ (El x) (R' es))=_
  rw[aj,ih]
  unfold Co
  rw[List.find?_cons]
  by_cases h:x=e.2.1
  ·subst h;simp
  ·rw[decide_eq_false h,decide_eq_false (fun h'=>h h'.symm)];simp
theorem Jj (x:BT):Ea Pm (El x)=true:=by simp[Ea,El,Yn,D.isAgg,D.cells,C2]
theorem I1 {es:List Ay}{x:BT}{v:Int}(h:Co es x=some v):EQ (El x) (R' es)=some (.int .i64 v):=by rw[Yo,h];rfl
theorem I2 {es:List Ay}{x:BT}(h:Co es x=none):EQ (El x) (R' es)=none:=by rw[Yo,h];rfl
def bF (t:D) (p:BT->Bool):Prop:=(∃f cs,t=.bnd f cs/\BK E0.P f=true/\Ak AV.toD1 (cs.map .d)=some cs/\∀x,C6 E0 f (cs++[El x]) (.bool (p x))) \/
 (∃f cs,t=.fn f cs/\BK E0.P f=true/\Ak AV.toD1 (cs.map .d)=some cs/\∀x,C6 E0 f (El x::cs) (.bool (p x)))
theorem Q7 {cs:List D}{x:AV}{d:D}(h:Ak AV.toD1 (cs.map .d)=some cs) (hx:x.toD1=some d):Dr (cs.map .d++[x])=some (cs++[d]):=by
 have key:∀(l r:List D),Ak AV.toD1 (l.map .d)=some r->Ak AV.toD1 (l.map .d++[x])=some (r++[d]):=by
  intro l
  induction l with
  |nil=>intro r h;simp only[List.map_nil,Ak,Option.some.injEq] at h;subst h;simp[Ak,hx]
  |cons y l ih =>
   intro r h
   simp only[List.map_cons,List.cons_append,Ak] at h ⊢
   cases hy:AV.toD1 (.d y) with
   |none=>rw[hy] at h;cases h
   |some z =>
    rw[hy] at h
    cases hl:Ak AV.toD1 (l.map .d) with
    |none=>simp only[hl] at h;cases h
    |some q=>simp only[hl,Option.some.injEq] at h;subst h;simp only[ih q hl];rfl
 exact key cs cs h
attribute [local congr] DH Bv Bw BW DJ Bd Bf Be BV BH A' A0 BZ BA Ba BF Bc BG B1 CX BE B4 B5 B2 Bz B0 Bu DI Bx BX BC BB BD Bb B3
attribute [local irreducible] IntKind.wrap BR Option.getD and or
theorem Fx (es:List Ay) (x:BT):C6 E0 D8 [.map Pm (R' es),El x] (.bool (CA es x)):=by
 refine AU MQ A1 (by simp) fun hwf=>?_
 have ht:=Jj x
 rw[Ae];unfold H1 CA
 cases hv:Co es x with
 |none =>
  have hl:=I2 hv
  rw[AX,AQ] at hl ht
  (try (simp -implicitDefEqProofs only[go_sem,AX,AQ,hl,ht]));repeat' first|(with_reducible first|exact tI|refine aI ?_ ?_|intro _)|((first|with_reducible refine AW ?_ ?_<;>intro _)<;>try (simp -implicitDefEqProofs only[go_sem,AX,AQ,hl,ht]))|simp (disch:=omega) only[Au]
  all_goals first|rfl|trace_state
 |some v =>
  have hl:=I1 hv
  rw[AX,AQ] at hl ht
  (try (simp -implicitDefEqProofs only[go_sem,AX,AQ,hl,ht]));repeat' first|(with_reducible first|exact tI|refine aI ?_ ?_|intro _)|((first|with_reducible refine AW ?_ ?_<;>intro _)<;>try (simp -implicitDefEqProofs only[go_sem,AX,AQ,hl,ht]))|simp (disch:=omega) only[Au]
  all_goals first|rfl|trace_state
theorem E_ (a:Ao) (g:a.Good) (s:BT) (hs:s.near) (t:D) (p:BT->Bool) (ht:bF t p):C6 E0 GE [Ek a,El s,t] (.tup [.int .i64 ((Ft a p s).getD 0),.bool (Ft a p s).isSome]):=by
 refine AU JI A1 (by simp) fun hwf=>?_
 have g1:=g.f;have g2:=g.k
 have w1:IntKind.i64.wrap (0-a.force)=-a.force:=by rw[Aw _ (by omega)];omega
 have w2:IntKind.i64.wrap (0-a.shake)=-a.shake:=by rw[Aw _ (by omega)];omega
 rw[Ae];unfold FZ
 rcases ht with⟨f,cs,rfl,hb,hcs,ht⟩|⟨f,cs,rfl,hb,hcs,ht⟩
 ·(try (simp -implicitDefEqProofs only[go_sem,AM,AF,AX,AQ,w1]));repeat' first|(with_reducible first|exact tI|refine aI ?_ ?_|intro _)|((first|with_reducible refine AW ?_ ?_<;>intro _)<;>try (simp -implicitDefEqProofs only[go_sem,AM,AF,AX,AQ,w1]))|simp (disch:=omega) only[Au]|((with_reducible refine BP ?_);refine⟨_,rfl,?_,?_⟩)
  all_goals first|omega|(simp<;>omega)|skip
  refine A5 (α:=Int) (l0:=?l1) (m0:=?m1) (fun x=>[(8,.d (.int .i64 x))]) (fun x=>[]) (fun x=>(-a.force<=x/\x<=a.force+1)/\∀d,-a.force<=d->d<x->Ru a p s d=false) (fun x=>(a.force+1-x).toNat) (-a.force) ?h01 ?he1 ?he21 ?hI1 ?step1
  case h01=>(simp -implicitDefEqProofs only[go_sem];rfl)
  case he1=>rfl
  case he21=>rfl
  case' step1=>(rintro c hI;try dsimp only at hI)
  case' hI1=>try dsimp only
  ·exact⟨by omega,fun d h1 h2=>by omega⟩
  ·obtain⟨⟨c1,c2⟩,c3⟩:=hI
   by_cases hc:c<=a.force
   ·have wc:IntKind.i64.wrap (c+1)=c+1:=Aw _ (by omega)
    have hstep:Ru a p s c=false->∀d,-a.force<=d->d<c+1->Ru a p s d=false:=fun ho d h1 h2=>by
     by_cases hdc:d=c
     ·subst hdc;exact ho
     ·exact c3 d h1 (by omega)
    (try (simp -implicitDefEqProofs only[go_sem,AF,hc,w2]));repeat' first|(with_reducible first|exact tI|refine aI ?_ ?_|intro _)|((first|with_reducible refine AW ?_ ?_<;>intro _)<;>try (simp -implicitDefEqProofs only[go_sem,AF,hc,w2]))|simp (disch:=omega) only[Au]|((with_reducible refine BP ?_);refine⟨_,rfl,?_,?_⟩)
    all_goals first|omega|(simp<;>omega)|skip
    refine A5 (α:=Int) (l0:=?l2) (m0:=?m2) (fun x=>[(9,.d (.int .i64 x))]) (fun x=>[]) (fun x=>(-a.shake<=x/\x<=a.shake+1)/\∀d,-a.shake<=d->d<x->ND a p s c d=true) (fun x=>(a.shake+1-x).toNat) (-a.shake) ?h02 ?he2 ?he22 ?hI2 ?step2
    case h02=>(simp -implicitDefEqProofs only[go_sem];rfl)
    case he2=>rfl
    case he22=>rfl
    case' step2=>(rintro k hI2;try dsimp only at hI2)
    case' hI2=>try dsimp only
    ·exact⟨by omega,fun d h1 h2=>by omega⟩
    ·obtain⟨⟨k1,k2⟩,k3⟩:=hI2
     by_cases hk:k<=a.shake
     ·have wk:IntKind.i64.wrap (k+1)=k+1:=Aw _ (by omega)
      have cS:=G_ a g s hs c k (by omega) (by omega)
      have hT:=ht (Nb s c k)
      have hfit:ND a p s c k=(a.has (Nb s c k) && p (Nb s c k)):=rfl
      obtain⟨n,hn⟩:∃n,Nb s c k=n:=⟨_,rfl⟩
      rw[hn] at cS hT hfit
      rw[AM,AF,AX,AQ,AX,AQ] at cS
      cases hh:a.has n with
      |false =>
       rw[hh] at cS
       have hno:=hstep (PM k1 hk (by rw[hfit,hh];simp))
       (try (simp -implicitDefEqProofs only[go_sem,AF,hk,AQ,wc]));repeat' first|(with_reducible first|exact tI|refine aI ?_ ?_|intro _)|((first|with_reducible refine AW ?_ ?_<;>intro _|(with_reducible refine isCall ?_);first|refine AD cS ?_)<;>try (simp -implicitDefEqProofs only[go_sem,AF,hk,AQ,wc]))|simp (disch:=omega) only[Au]|((with_reducible refine BP ?_);refine⟨_,rfl,?_,?_⟩)
       all_goals first|omega|exact hno|exact hno _ (by assumption) (by assumption)|skip
      |true =>
       rw[hh] at cS
       obtain⟨B,hB⟩:∃B,p n=B:=⟨_,rfl⟩
       rw[hB] at hT
       rw[hh,hB] at hfit
       (try (simp -implicitDefEqProofs only[go_sem,AF,hk,AQ]));repeat' first|(with_reducible first|exact tI|refine aI ?_ ?_|intro _)|((first|with_reducible refine AW ?_ ?_<;>intro _|(with_reducible refine isCall ?_);first|refine AD cS ?_)<;>try (simp -implicitDefEqProofs only[go_sem,AF,hk,AQ]))|simp (disch:=omega) only[Au]|((with_reducible refine BP ?_);refine⟨_,rfl,?_,?_⟩)
       all_goals first|omega|exact hb|skip
       refine J4 hT (Q7 hcs rfl) ?_
       cases B with
       |false =>
        have hno:=hstep (PM k1 hk (by rw[hfit];simp))
        (try (simp -implicitDefEqProofs only[go_sem,AF,hk,AQ,wc]));repeat' first|(with_reducible first|exact tI|refine aI ?_ ?_|intro _)|((first|with_reducible refine AW ?_ ?_<;>intro _)<;>try (simp -implicitDefEqProofs only[go_sem,AF,hk,AQ,wc]))|simp (disch:=omega) only[Au]|((with_reducible refine BP ?_);refine⟨_,rfl,?_,?_⟩)
        all_goals first|omega|exact hno|exact hno _ (by assumption) (by assumption)|skip
       |true =>
        have hyes:∀d,-a.shake<=d->d<k+1->ND a p s c d=true:=fun d h1 h2=>by
         by_cases hdk:d=k
         ·subst hdk;rw[hfit];simp
         ·exact k3 d h1 (by omega)
        (try (simp -implicitDefEqProofs only[go_sem,AF,hk,AQ,wk]));repeat' first|(with_reducible first|exact tI|refine aI ?_ ?_|intro _)|((first|with_reducible refine AW ?_ ?_<;>intro _)<;>try (simp -implicitDefEqProofs only[go_sem,AF,hk,AQ,wk]))|simp (disch:=omega) only[Au]|((with_reducible refine BP ?_);refine⟨_,rfl,?_,?_⟩)
        all_goals first|omega|exact hyes|exact hyes _ (by assumption) (by assumption)|skip
     ·have hcm:Ft a p s=some c:=Og c1 hc c3 (KX.2 fun d h1 h2=>k3 d h1 (by omega))
      rw[hcm,Option.getD_some,Option.isSome_some]
      (try (simp -implicitDefEqProofs only[go_sem,AF,hk]));repeat' first|(with_reducible first|exact tI|refine aI ?_ ?_|intro _)|((first|with_reducible refine AW ?_ ?_<;>intro _)<;>try (simp -implicitDefEqProofs only[go_sem,AF,hk]))|simp (disch:=omega) only[Au]|((with_reducible refine BP ?_);refine⟨_,rfl,?_,?_⟩)
      all_goals first|omega|rfl|skip
   ·have hcm:Ft a p s=none:=Qz fun d h1 h2=>c3 d h1 (by omega)
    rw[hcm,show (none:Option Int).getD 0=0 from by simp,Option.isSome_none]
    (try (simp -implicitDefEqProofs only[go_sem,AF,hc]));repeat' first|(with_reducible first|exact tI|refine aI ?_ ?_|intro _)|((first|with_reducible refine AW ?_ ?_<;>intro _)<;>try (simp -implicitDefEqProofs only[go_sem,AF,hc]))|simp (disch:=omega) only[Au]|((with_reducible refine BP ?_);refine⟨_,rfl,?_,?_⟩)
    all_goals first|omega|rfl|skip
 ·(try (simp -implicitDefEqProofs only[go_sem,AM,AF,AX,AQ,w1]));repeat' first|(with_reducible first|exact tI|refine aI ?_ ?_|intro _)|((first|with_reducible refine AW ?_ ?_<;>intro _)<;>try (simp -implicitDefEqProofs only[go_sem,AM,AF,AX,AQ,w1]))|simp (disch:=omega) only[Au]|((with_reducible refine BP ?_);refine⟨_,rfl,?_,?_⟩)
  all_goals first|omega|(simp<;>omega)|skip
  refine A5 (α:=Int) (l0:=?l3) (m0:=?m3) (fun x=>[(8,.d (.int .i64 x))]) (fun x=>[]) (fun x=>(-a.force<=x/\x<=a.force+1)/\∀d,-a.force<=d->d<x->Ru a p s d=false) (fun x=>(a.force+1-x).toNat) (-a.force) ?h03 ?he3 ?he23 ?hI3 ?step3
  case h03=>(simp -implicitDefEqProofs only[go_sem];rfl)
  case he3=>rfl
  case he23=>rfl
  case' step3=>(rintro c hI3;try dsimp only at hI3)
  case' hI3=>try dsimp only
  ·exact⟨by omega,fun d h1 h2=>by omega⟩
  ·obtain⟨⟨c1,c2⟩,c3⟩:=hI3
   by_cases hc:c<=a.force
   ·have wc:IntKind.i64.wrap (c+1)=c+1:=Aw _ (by omega)
    have hstep:Ru a p s c=false->∀d,-a.force<=d->d<c+1->Ru a p s d=false:=fun ho d h1 h2=>by
     by_cases hdc:d=c
     ·subst hdc;exact ho
     ·exact c3 d h1 (by omega)
    (try (simp -implicitDefEqProofs only[go_sem,AF,hc,w2]));repeat' first|(with_reducible first|exact tI|refine aI ?_ ?_|intro _)|((first|with_reducible refine AW ?_ ?_<;>intro _)<;>try (simp -implicitDefEqProofs only[go_sem,AF,hc,w2]))|simp (disch:=omega) only[Au]|((with_reducible refine BP ?_);refine⟨_,rfl,?_,?_⟩)
    all_goals first|omega|(simp<;>omega)|skip
    refine A5 (α:=Int) (l0:=?l4) (m0:=?m4) (fun x=>[(9,.d (.int .i64 x))]) (fun x=>[]) (fun x=>(-a.shake<=x/\x<=a.shake+1)/\∀d,-a.shake<=d->d<x->ND a p s c d=true) (fun x=>(a.shake+1-x).toNat) (-a.shake) ?h04 ?he4 ?he24 ?hI4 ?step4
    case h04=>(simp -implicitDefEqProofs only[go_sem];rfl)
    case he4=>rfl
    case he24=>rfl
    case' step4=>(rintro k hI4;try dsimp only at hI4)
    case' hI4=>try dsimp only
    ·exact⟨by omega,fun d h1 h2=>by omega⟩
    ·obtain⟨⟨k1,k2⟩,k3⟩:=hI4
     by_cases hk:k<=a.shake
     ·have wk:IntKind.i64.wrap (k+1)=k+1:=Aw _ (by omega)
      have cS:=G_ a g s hs c k (by omega) (by omega)
      have hT:=ht (Nb s c k)
      have hfit:ND a p s c k=(a.has (Nb s c k) && p (Nb s c k)):=rfl
      obtain⟨n,hn⟩:∃n,Nb s c k=n:=⟨_,rfl⟩
      rw[hn] at cS hT hfit
      rw[AM,AF,AX,AQ,AX,AQ] at cS
      cases hh:a.has n with
      |false =>
       rw[hh] at cS
       have hno:=hstep (PM k1 hk (by rw[hfit,hh];simp))
       (try (simp -implicitDefEqProofs only[go_sem,AF,hk,AQ,wc]));repeat' first|(with_reducible first|exact tI|refine aI ?_ ?_|intro _)|((first|with_reducible refine AW ?_ ?_<;>intro _|(with_reducible refine isCall ?_);first|refine AD cS ?_)<;>try (simp -implicitDefEqProofs only[go_sem,AF,hk,AQ,wc]))|simp (disch:=omega) only[Au]|((with_reducible refine BP ?_);refine⟨_,rfl,?_,?_⟩)
       all_goals first|omega|exact hno|exact hno _ (by assumption) (by assumption)|skip
      |true =>
       rw[hh] at cS
       obtain⟨B,hB⟩:∃B,p n=B:=⟨_,rfl⟩
       rw[hB] at hT
       rw[hh,hB] at hfit
       (try (simp -implicitDefEqProofs only[go_sem,AF,hk,AQ]));repeat' first|(with_reducible first|exact tI|refine aI ?_ ?_|intro _)|((first|with_reducible refine AW ?_ ?_<;>intro _|(with_reducible refine isCall ?_);first|refine AD cS ?_)<;>try (simp -implicitDefEqProofs only[go_sem,AF,hk,AQ]))|simp (disch:=omega) only[Au]|((with_reducible refine BP ?_);refine⟨_,rfl,?_,?_⟩)
       all_goals first|omega|exact hb|skip
       refine J4 hT (F9 rfl hcs) ?_
       cases B with
       |false =>
        have hno:=hstep (PM k1 hk (by rw[hfit];simp))
        (try (simp -implicitDefEqProofs only[go_sem,AF,hk,AQ,wc]));repeat' first|(with_reducible first|exact tI|refine aI ?_ ?_|intro _)|((first|with_reducible refine AW ?_ ?_<;>intro _)<;>try (simp -implicitDefEqProofs only[go_sem,AF,hk,AQ,wc]))|simp (disch:=omega) only[Au]|((with_reducible refine BP ?_);refine⟨_,rfl,?_,?_⟩)
        all_goals first|omega|exact hno|exact hno _ (by assumption) (by assumption)|skip
       |true =>
        have hyes:∀d,-a.shake<=d->d<k+1->ND a p s c d=true:=fun d h1 h2=>by
         by_cases hdk:d=k
         ·subst hdk;rw[hfit];simp
         ·exact k3 d h1 (by omega)
        (try (simp -implicitDefEqProofs only[go_sem,AF,hk,AQ,wk]));repeat' first|(with_reducible first|exact tI|refine aI ?_ ?_|intro _)|((first|with_reducible refine AW ?_ ?_<;>intro _)<;>try (simp -implicitDefEqProofs only[go_sem,AF,hk,AQ,wk]))|simp (disch:=omega) only[Au]|((with_reducible refine BP ?_);refine⟨_,rfl,?_,?_⟩)
        all_goals first|omega|exact hyes|exact hyes _ (by assumption) (by assumption)|skip
     ·have hcm:Ft a p s=some c:=Og c1 hc c3 (KX.2 fun d h1 h2=>k3 d h1 (by omega))
      rw[hcm,Option.getD_some,Option.isSome_some]
      (try (simp -implicitDefEqProofs only[go_sem,AF,hk]));repeat' first|(with_reducible first|exact tI|refine aI ?_ ?_|intro _)|((first|with_reducible refine AW ?_ ?_<;>intro _)<;>try (simp -implicitDefEqProofs only[go_sem,AF,hk]))|simp (disch:=omega) only[Au]|((with_reducible refine BP ?_);refine⟨_,rfl,?_,?_⟩)
      all_goals first|omega|rfl|skip
   ·have hcm:Ft a p s=none:=Qz fun d h1 h2=>c3 d h1 (by omega)
    rw[hcm,show (none:Option Int).getD 0=0 from by simp,Option.isSome_none]
    (try (simp -implicitDefEqProofs only[go_sem,AF,hc]));repeat' first|(with_reducible first|exact tI|refine aI ?_ ?_|intro _)|((first|with_reducible refine AW ?_ ?_<;>intro _)<;>try (simp -implicitDefEqProofs only[go_sem,AF,hc]))|simp (disch:=omega) only[Au]|((with_reducible refine BP ?_);refine⟨_,rfl,?_,?_⟩)
    all_goals first|omega|rfl|skip
end Go.Pw
end
section
open Go Go.Pw Go.Proofs
namespace Go.Pw
set_option maxRecDepth 100000
set_option maxHeartbeats 3200000
theorem am (es:List Ay) (x:BT):Db (El x) (R' es)=es.findIdx? fun e=>decide (e.2.1=x):=by
 induction es with
 |nil=>rfl
 |cons e es ih =>
  show (if Cd (El x) (El e.2.1)=true then some 0 else (Db (El x) (R' es)).map (·+1))=_
  rw[aj,ih,List.findIdx?_cons]
  by_cases h:x=e.2.1
  ·subst h;simp
  ·rw[decide_eq_false h,decide_eq_false (fun h'=>h h'.symm)]
theorem UK {es:List Ay}{x:BT}(h:Co es x=none):Db (El x) (R' es)=none:=by
 rw[am,List.findIdx?_eq_none_iff]
 intro e he
 rw[decide_eq_false_iff_not]
 intro hx
 have:CA es x=true:=H8.2 ⟨e,he,hx⟩
 unfold CA at this
 rw[h] at this;cases this
theorem Wh (es:List Ay) (e:Ay):LR es++[(e.1,El e.2.1,.int .i64 e.2.2)]=LR (es++[e]):=by simp[LR]
theorem Sp {es:List Ay}{x:BT}{v:Int}{cl:Nat}(h:Co es x=none):W7 (El x) (.int .i64 v) (LR es) cl=LR (es++[(cl,x,v)])/\W8 (El x) (LR es) cl=cl+1:=by
 unfold W7 W8
 rw[GL,UK h]
 exact⟨Wh es (cl,x,v),rfl⟩
theorem Kn {x:BT}:∀(es:List Ay),JK es->(match es.findIdx? fun e=>decide (e.2.1=x) with|some i=>es.eraseIdx i|none=>es)=es.filter fun e=>!decide (e.2.1=x)
 |[],_=>rfl
 |e::es,h=>by
  unfold JK at h
  rw[List.map_cons,List.nodup_cons] at h
  rw[List.findIdx?_cons,List.filter_cons]
  by_cases hx:e.2.1=x
  ·rw[decide_eq_true hx]
   simp only[if_true,Bool.not_true,Bool.false_eq_true,if_false,List.eraseIdx_cons_zero]
   symm
   rw[List.filter_eq_self]
   intro f hf
   simp only[Bool.not_eq_true',decide_eq_false_iff_not]
   intro hfx
   exact h.1 (by rw[hx,←hfx];exact List.mem_map_of_mem (f:=fun e:Ay=>e.2.1) hf)
  ·rw[decide_eq_false hx]
   simp only[Bool.false_eq_true,if_false,Bool.not_false,if_true]
   rw[←Kn es h.2]
   cases es.findIdx? fun e=>decide (e.2.1=x)<;>simp
theorem Ob {α β:Type}(f:α->β):∀(l:List α) (i:Nat),(l.map f).eraseIdx i=(l.eraseIdx i).map f
 |[],i=>rfl
 |x::l,0=>rfl
 |x::l,i+1=>congrArg (f x :: ·) (Ob f l i)
theorem YT {es:List Ay}(h:JK es) (x:BT):YU (El x) (LR es)=LR (es.filter fun e=>!decide (e.2.1=x)):=by
 unfold YU
 rw[GL,am,←Kn es h]
 cases es.findIdx? fun e=>decide (e.2.1=x) with
 |none=>rfl
 |some i =>
  show (LR es).eraseIdx i=LR (es.eraseIdx i)
  exact Ob _ es i
def Pj (es:List Ay):Prop:=(es.map (·.1)).Nodup
theorem Gi:∀{es:List Ay},Pj es->∀{e},e∈es->(LR es).find? (fun f=>f.1 == e.1)=some (e.1,El e.2.1,.int .i64 e.2.2)
 |[],_,e,h=>by cases h
 |f::es,hn,e,h=>by
  unfold Pj at hn
  rw[List.map_cons,List.nodup_cons] at hn
  show ((f.1,El f.2.1,D.int .i64 f.2.2)::LR es).find? (fun f=>f.1 == e.1)=_
  rw[List.find?_cons]
  rcases List.mem_cons.1 h with rfl|h
  ·simp
  ·have hne:(f.1 == e.1)=false:=by
    rw[beq_eq_false_iff_ne]
    intro he
    exact hn.1 (by rw[he];exact List.mem_map_of_mem (f:=fun e:Ay=>e.1) h)
   simp only[hne]
   exact Gi hn.2 h
theorem Vy (l:List BT) (cl:Nat) (v:Int):Pj (Dz l cl v):=by
 unfold Pj Dz
 rw[List.map_map]
 show ((l.zipIdx).map (fun p=>cl+p.2)).Nodup
 have h:(l.zipIdx).map (fun p=>cl+p.2)=(List.range' 0 l.length).map (cl+·):=by
  rw[←List.zipIdx_map_snd 0 l,List.map_map];rfl
 rw[h,List.Nodup,List.pairwise_map]
 exact List.Pairwise.imp (fun hxy he=>hxy (by omega)) (List.nodup_range' (step:=1) (by omega))
theorem Rv {es:List Ay}(h:Pj es) (q:Ay->Bool):Pj (es.filter q):=List.Nodup.sublist (List.Sublist.map _ List.filter_sublist) h
theorem Lv {es:List Ay}(h:JK es) (q:Ay->Bool):JK (es.filter q):=List.Nodup.sublist (List.Sublist.map _ List.filter_sublist) h
structure KI (a:Ao) (p:BT->Bool) (es:List Ay):Prop where
 d:JK es
 n:Pj es
 s:∀e,e∈es->a.has e.2.1=true
 k:∃K,es.length<=K/\HR a K es=Fc a p
 b:es.length<=697
theorem J_ {a:Ao}(g:a.Good):a.spots.length<=697:=by
 have g1:=g.l;have g2:=g.s
 rw[N8]
 exact Nat.le_trans (Nat.mul_le_mul (show (a.last+1).toNat<=41 by omega) (show (2*a.speed+1).toNat<=17 by omega)) (by decide)
theorem WG (a:Ao) (g:a.Good) (p:BT->Bool):KI a p (F6 a p) where
 d:=by
  unfold JK F6
  rw[KY]
  exact List.Nodup.sublist List.filter_sublist (Eu a)
 n:=Vy _ _ _
 s:=fun e he=>Iv.1 (List.mem_filter.1 (EO he).2).1
 k:=⟨_,Nat.le_refl _,rfl⟩
 b:=by
  unfold F6
  rw[QR]
  exact Nat.le_trans (List.length_filter_le _ _) (J_ g)
theorem Xz {a:Ao}{p:BT->Bool}{es:List Ay}(h:KI a p es) (hne:EX a es≠es):KI a p (EX a es)/\(EX a es).length<es.length:=by
 have hle:(EX a es).length<=es.length:=List.length_filter_le _ _
 have hlt:(EX a es).length≠es.length:=fun he=>hne (by
  unfold EX at he ⊢
  exact List.filter_eq_self.2 (List.length_filter_eq_length_iff.1 he))
 refine⟨⟨Lv h.d _,Rv h.n _,fun e he=>h.s e (List.mem_filter.1 he).1,?_,by have:=h.b;omega⟩,by omega⟩
 obtain⟨K,h1,h2⟩:=h.k
 match K,h1,h2 with
 |0,h1,h2=>omega
 |K+1,h1,h2 =>
  rw[HR,if_neg hlt] at h2
  exact⟨K,by omega,h2⟩
theorem Zn {a:Ao}{p:BT->Bool}{es:List Ay}(h:KI a p es) (he:EX a es=es):es=Fc a p:=by
 obtain⟨K,h1,h2⟩:=h.k
 rw[←h2]
 match K with
 |0=>rfl
 |K+1=>rw[HR,if_pos (by rw[he])]
structure Pi (a:Ao) (es:List Ay) (seen:List Nat) (out:List BT):Prop where
 b:∀x,x∈out->CA es x=true/\(Ft a (CA es) x).isSome=false
 c:∀e,e∈es->seen.contains e.1=true->(Ft a (CA es) e.2.1).isSome=true\/e.2.1∈out
theorem Vq (a:Ao) (es:List Ay):Pi a es [] []:=⟨fun x h=>(by cases h),fun e _ h=>(by simp at h)⟩
theorem Tq {a:Ao}{es:List Ay}{seen:List Nat}{out:List BT}(h:Pi a es seen out) (hn:Pj es) {e:Ay}(he:e∈es) (hg:(Ft a (CA es) e.2.1).isSome=true):Pi a es (seen++[e.1]) out:=by
 refine⟨h.b,fun f hf hs=>?_⟩
 rw[List.contains_iff_mem,List.mem_append,List.mem_singleton] at hs
 rcases hs with hs|hs
 ·exact h.c f hf (List.contains_iff_mem.2 hs)
 ·have h1:=Gi hn hf
  rw[hs,Gi hn he] at h1
  have h2:f=e:=by
   simp only[Option.some.injEq,Prod.mk.injEq] at h1
   obtain⟨x1,⟨x2,x3⟩,x4⟩:=f
   obtain⟨y1,⟨y2,y3⟩,y4⟩:=e
   simp only[El,Yn,D.agg.injEq,List.cons.injEq,D.int.injEq,true_and,and_true] at h1
   simp only[Prod.mk.injEq,BT.mk.injEq]
   exact⟨hs,⟨h1.1.1.symm,h1.1.2.symm⟩,h1.2.symm⟩
  rw[h2];exact .inl hg
theorem Vr {a:Ao}{es:List Ay}{seen:List Nat}{out:List BT}(h:Pi a es seen out) (hn:Pj es) {e:Ay}(he:e∈es) (hg:(Ft a (CA es) e.2.1).isSome=false):Pi a es (seen++[e.1]) (out++[e.2.1]):=by
 refine⟨fun x hx=>?_,fun f hf hs=>?_⟩
 ·rcases List.mem_append.1 hx with hx|hx
  ·exact h.b x hx
  ·rw[List.mem_singleton] at hx
   rw[hx];exact⟨H8.2 ⟨e,he,rfl⟩,hg⟩
 ·rw[List.contains_iff_mem,List.mem_append,List.mem_singleton] at hs
  rcases hs with hs|hs
  ·rcases h.c f hf (List.contains_iff_mem.2 hs) with h1|h1
   ·exact .inl h1
   ·exact .inr (List.mem_append_left _ h1)
  ·have h1:=Gi hn hf
   rw[hs,Gi hn he] at h1
   have h2:f.2.1=e.2.1:=by
    simp only[Option.some.injEq,Prod.mk.injEq] at h1
    obtain⟨x1,⟨x2,x3⟩,x4⟩:=f
    obtain⟨y1,⟨y2,y3⟩,y4⟩:=e
    simp only[El,Yn,D.agg.injEq,List.cons.injEq,D.int.injEq,true_and,and_true] at h1
    simp only[BT.mk.injEq]
    exact⟨h1.1.1.symm,h1.1.2.symm⟩
   rw[h2];exact .inr (List.mem_append_right _ (List.mem_singleton.2 rfl))
theorem Xg {a:Ao}{es:List Ay}{seen:List Nat}{out:List BT}(h:Pi a es seen out) (hall:∀e,e∈es->seen.contains e.1=true):(es.filter fun e=>!out.contains e.2.1)=EX a es:=by
 unfold EX
 refine List.filter_congr fun e he=>?_
 rw[Bool.eq_iff_iff,Bool.not_eq_true',←Bool.not_eq_true,List.contains_iff_mem]
 constructor
 ·intro hn
  exact(h.c e he (hall e he)).resolve_right hn
 ·intro hs hm
  rw[(h.b _ hm).2] at hs;cases hs
theorem ZZ {a:Ao}{es:List Ay}{seen:List Nat}{out:List BT}(h:Pi a es seen out) (hne:out≠[]):EX a es≠es:=by
 intro he
 obtain⟨x,hx⟩:=List.exists_mem_of_ne_nil _ hne
 obtain⟨h1,h2⟩:=h.b x hx
 obtain⟨e,h3,h4⟩:=H8.1 h1
 unfold EX at he
 have:=List.filter_eq_self.1 he e h3
 rw[h4,h2] at this;cases this
def Ji (es:List Ay) (seen:List Nat):Nat:=(es.filter fun e=>!seen.contains e.1).length
theorem TD {es:List Ay}{seen:List Nat}{e:Ay}(he:e∈es) (hs:seen.contains e.1=false):Ji es (seen++[e.1])<Ji es seen:=by
 refine LP (fun f hf=>?_) he (by rw[hs];rfl) ?_
 ·simp only[Bool.not_eq_true',←Bool.not_eq_true,List.contains_iff_mem,List.mem_append] at hf ⊢
  exact fun h=>hf (.inl h)
 ·simp only[Bool.not_eq_false',List.contains_iff_mem,List.mem_append,List.mem_singleton,or_true]
def Ko (es:List Ay) (out:List BT) (i:Nat):List Ay:=es.filter fun e=>!(out.take i).contains e.2.1
theorem YP (es:List Ay) (out:List BT):Ko es out 0=es:=by unfold Ko;simp
theorem Up (es:List Ay) (out:List BT):Ko es out out.length=es.filter fun e=>!out.contains e.2.1:=by unfold Ko;rw[List.take_length]
theorem SW {es:List Ay}(h:JK es) {out:List BT}{i:Nat}(hi:i<out.length):YU (El (out[i]?.getD default)) (LR (Ko es out i))=LR (Ko es out (i+1)):=by
 have h1:=YT (Lv h fun e=>!(out.take i).contains e.2.1) (out[i]?.getD default)
 unfold Ko
 rw[h1,List.filter_filter]
 congr 1
 refine List.filter_congr fun e _=>?_
 rw[List.take_add_one,List.getElem?_eq_getElem hi,Option.getD_some,Option.toList_some,Bool.eq_iff_iff]
 simp only[Bool.and_eq_true,Bool.not_eq_true',decide_eq_false_iff_not,←Bool.not_eq_true,List.contains_iff_mem,List.mem_append,List.mem_singleton,not_or]
 rw[decide_eq_true_eq]
 exact And.comm
theorem VH {a:Ao}{n:Nat}{x:BT}(h:a.spots[n]?=some x) (p:BT->Bool) (cl:Nat) (v:Int):Co (Dz ((a.spots.take n).filter p) cl v) x=none:=by
 have hm:=M5 ((a.spots.take n).filter p) cl v x
 have hno:x∉(a.spots.take n).filter p:=fun hx=>by
  have h1:=(List.mem_filter.1 hx).1
  obtain⟨hn,he⟩:=List.getElem?_eq_some_iff.1 h
  obtain⟨i,hi,hie⟩:=List.getElem_of_mem h1
  rw[List.length_take] at hi
  rw[List.getElem_take] at hie
  have:=(List.getElem_inj (Eu a)).1 (hie.trans he.symm)
  omega
 rw[decide_eq_false hno] at hm
 unfold CA at hm
 cases hv:Co (Dz ((a.spots.take n).filter p) cl v) x with
 |none=>rfl
 |some w=>rw[hv] at hm;cases hm
theorem GS {l:List BT}{n:Nat}{x:BT}(h:l[n]?=some x) (p:BT->Bool):(l.take (n+1)).filter p=(l.take n).filter p++(if p x then [x] else []):=by
 rw[List.take_add_one,h,List.filter_append]
 cases hp:p x<;>simp[hp]
end Go.Pw
end

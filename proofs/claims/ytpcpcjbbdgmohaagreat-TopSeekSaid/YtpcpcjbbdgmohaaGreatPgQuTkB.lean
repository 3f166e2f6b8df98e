/- A part of the proof. -/
import Derived.Test.YtpcpcjbbdgmohaaGreatTkA
import Derived.Test.YtpcpcjbbdgmohaaGreatQuPC
import Derived.Test.YtpcpcjbbdgmohaaGreatPwYa
set_option linter.all false
section
open Go Go.Pw Go.Proofs
namespace Go.Pw
set_option maxRecDepth 100000
set_option maxHeartbeats 1600000
def Se (a:A1):List D:=[.int .i64 a.last,.int .i64 a.speed,.int .i64 a.force,.int .i64 a.shake,.int .i64 a.gate,.int .i64 a.slow]
def FW (a:A1):D:=.agg (Se a)
def i6 (s:Bv):List D:=[.int .i64 s.at',.int .i64 s.sp]
def F7 (s:Bv):D:=.agg (i6 s)
def H' (l:List Bv):List D:=l.map F7
theorem AP (a:A1):Se a=[.int .i64 a.last,.int .i64 a.speed,.int .i64 a.force,.int .i64 a.shake,.int .i64 a.gate,.int .i64 a.slow]:=rfl
theorem Aa (a:A1):FW a=.agg (Se a):=rfl
theorem Af (s:Bv):i6 s=[.int .i64 s.at',.int .i64 s.sp]:=rfl
theorem Ah (s:Bv):F7 s=.agg (i6 s):=rfl
theorem BS (l:List Bv):(H' l).length=l.length:=by simp[H']
theorem C9 (l:List Bv):Ci 2 (H' l)=True:=J7 fun _=>rfl
theorem DF {l:List Bv}{i:Nat}{A:D->Prop}:Ax (H' l)[i]? A=(i<l.length/\A (F7 (l[i]?.getD default))):=HA
theorem Gj (l:List Bv) (x y:Int):H' l++[.agg [.int .i64 x,.int .i64 y]]=H' (l++[⟨x,y⟩]):=by simp[H',F7,i6]
abbrev Sp:HK:=(true,[some .i64,some .i64])
theorem ZO:Ft.noR=true:=by rfl
theorem Gv {E:CU} {rs o els s}:XN E rs o els .ret s=(Ev E s rs (fun _=>True)/\FS els (s.V.ob o)):=rfl
theorem F9 {E:CU} {rs o els s}:XN E rs o els .normal s=(Ev E s rs (fun _=>True)/\FS els (s.V.ob o)):=rfl
theorem Cp {els g e n st}:FS els (some (g,.hist e n st))=(e=els/\(st=true\/n=els.length)):=rfl
attribute [local congr] DX B3 B4 Bc DZ Bj Bl Bk Bb BN BF A6 Be BG Bg CD CE CF Cd Ce B9 Bf BL Bi BM B8 Cf BK CB CC B_ B6 B7 B2 DY B5 Bd BI BH BJ Bh CA
attribute [local irreducible] IntKind.wrap CK Option.getD and or
theorem Bz (n lo hi:Int):Ca E0 OE [.int .i64 n,.int .i64 lo,.int .i64 hi] (.bool (Gn n lo hi)):=by
 refine AW Rc Aq (by simp) fun hwf=>?_
 rw[AZ];unfold Ly Gn
 (try (simp -implicitDefEqProofs only[go_sem]));repeat' first|(with_reducible first|exact tI|refine aI ?_ ?_|intro _)|((first|with_reducible refine AU ?_ ?_<;>intro _)<;>try (simp -implicitDefEqProofs only[go_sem]))|simp (disch:=omega) only[Al]
 all_goals first|omega|(simp_all;done)|(simp_all;omega)
theorem C1 (n lo hi:Int):Ca E0 K1 [.int .i64 n,.int .i64 lo,.int .i64 hi] (.bool (Gn n lo hi)):=by
 refine AW Om Aq (by simp) fun hwf=>?_
 rw[AZ];unfold Jb Gn
 (try (simp -implicitDefEqProofs only[go_sem]));repeat' first|(with_reducible first|exact tI|refine aI ?_ ?_|intro _)|((first|with_reducible refine AU ?_ ?_<;>intro _)<;>try (simp -implicitDefEqProofs only[go_sem]))|simp (disch:=omega) only[Al]
 all_goals first|omega|(simp_all;done)|(simp_all;omega)
theorem H8 (a:A1):Ca E0 Ps [FW a] (.int .i64 (if a.ok then 0 else 60)):=by
 refine AW SX Aq (by simp) fun hwf=>?_
 have c1:=Bz a.last 0 40
 have c2:=Bz a.speed 0 8
 have c3:=Bz a.force 0 4
 have c4:=Bz a.shake 0 2
 have c5:=Bz a.gate 0 4
 have c6:=Bz a.slow 0 a.speed
 rw[AZ];unfold NL A1.ok
 generalize Gn a.last 0 40=b1 at *
 generalize Gn a.speed 0 8=b2 at *
 generalize Gn a.force 0 4=b3 at *
 generalize Gn a.shake 0 2=b4 at *
 generalize Gn a.gate 0 4=b5 at *
 generalize Gn a.slow 0 a.speed=b6 at *
 cases b1
 ·(try (simp -implicitDefEqProofs only[go_sem,Aa,AP]));repeat' first|(with_reducible first|exact tI|refine aI ?_ ?_|intro _)|((first|with_reducible refine AU ?_ ?_<;>intro _|(with_reducible refine isCall ?_);first|refine AF c1 ?_)<;>try (simp -implicitDefEqProofs only[go_sem,Aa,AP]))|simp (disch:=omega) only[Al]
  all_goals first|rfl|(simp;done)
 cases b2
 ·(try (simp -implicitDefEqProofs only[go_sem,Aa,AP]));repeat' first|(with_reducible first|exact tI|refine aI ?_ ?_|intro _)|((first|with_reducible refine AU ?_ ?_<;>intro _|(with_reducible refine isCall ?_);first|refine AF c1 ?_|refine AF c2 ?_)<;>try (simp -implicitDefEqProofs only[go_sem,Aa,AP]))|simp (disch:=omega) only[Al]
  all_goals first|rfl|(simp;done)
 cases b3
 ·(try (simp -implicitDefEqProofs only[go_sem,Aa,AP]));repeat' first|(with_reducible first|exact tI|refine aI ?_ ?_|intro _)|((first|with_reducible refine AU ?_ ?_<;>intro _|(with_reducible refine isCall ?_);first|refine AF c1 ?_|refine AF c2 ?_|refine AF c3 ?_)<;>try (simp -implicitDefEqProofs only[go_sem,Aa,AP]))|simp (disch:=omega) only[Al]
  all_goals first|rfl|(simp;done)
 cases b4
 ·(try (simp -implicitDefEqProofs only[go_sem,Aa,AP]));repeat' first|(with_reducible first|exact tI|refine aI ?_ ?_|intro _)|((first|with_reducible refine AU ?_ ?_<;>intro _|(with_reducible refine isCall ?_);first|refine AF c1 ?_|refine AF c2 ?_|refine AF c3 ?_|refine AF c4 ?_)<;>try (simp -implicitDefEqProofs only[go_sem,Aa,AP]))|simp (disch:=omega) only[Al]
  all_goals first|rfl|(simp;done)
 cases b5
 ·(try (simp -implicitDefEqProofs only[go_sem,Aa,AP]));repeat' first|(with_reducible first|exact tI|refine aI ?_ ?_|intro _)|((first|with_reducible refine AU ?_ ?_<;>intro _|(with_reducible refine isCall ?_);first|refine AF c1 ?_|refine AF c2 ?_|refine AF c3 ?_|refine AF c4 ?_|refine AF c5 ?_)<;>try (simp -implicitDefEqProofs only[go_sem,Aa,AP]))|simp (disch:=omega) only[Al]
  all_goals first|rfl|(simp;done)
 cases b6
 ·(try (simp -implicitDefEqProofs only[go_sem,Aa,AP]));repeat' first|(with_reducible first|exact tI|refine aI ?_ ?_|intro _)|((first|with_reducible refine AU ?_ ?_<;>intro _|(with_reducible refine isCall ?_);first|refine AF c1 ?_|refine AF c2 ?_|refine AF c3 ?_|refine AF c4 ?_|refine AF c5 ?_|refine AF c6 ?_)<;>try (simp -implicitDefEqProofs only[go_sem,Aa,AP]))|simp (disch:=omega) only[Al]
  all_goals first|rfl|(simp;done)
 ·(try (simp -implicitDefEqProofs only[go_sem,Aa,AP]));repeat' first|(with_reducible first|exact tI|refine aI ?_ ?_|intro _)|((first|with_reducible refine AU ?_ ?_<;>intro _|(with_reducible refine isCall ?_);first|refine AF c1 ?_|refine AF c2 ?_|refine AF c3 ?_|refine AF c4 ?_|refine AF c5 ?_|refine AF c6 ?_)<;>try (simp -implicitDefEqProofs only[go_sem,Aa,AP]))|simp (disch:=omega) only[Al]
  all_goals first|rfl|(simp;done)
theorem Pa (a:A1) (g:a.Good) (s:Bv):Ca E0 MH [FW a,F7 s] (.bool (a.has s)):=by
 refine AW QK Aq (by simp) fun hwf=>?_
 have g2:=g.s
 have c1:=Bz s.at' 0 a.last
 have c2:=Bz s.sp (-a.speed) a.speed
 have w1:IntKind.i64.wrap (0-a.speed)=-a.speed:=by rw[Ad _ (by omega)];omega
 rw[AZ];unfold Kb A1.has
 generalize Gn s.at' 0 a.last=b1 at *
 generalize Gn s.sp (-a.speed) a.speed=b2 at *
 cases b1
 ·(try (simp -implicitDefEqProofs only[go_sem,Aa,AP,Ah,Af]));repeat' first|(with_reducible first|exact tI|refine aI ?_ ?_|intro _)|((first|with_reducible refine AU ?_ ?_<;>intro _|(with_reducible refine isCall ?_);first|refine AF c1 ?_)<;>try (simp -implicitDefEqProofs only[go_sem,Aa,AP,Ah,Af]))|simp (disch:=omega) only[Al]
  all_goals first|rfl|(simp;done)
 ·cases b2
  all_goals ((try (simp -implicitDefEqProofs only[go_sem,Aa,AP,Ah,Af,w1]));repeat' first|(with_reducible first|exact tI|refine aI ?_ ?_|intro _)|((first|with_reducible refine AU ?_ ?_<;>intro _|(with_reducible refine isCall ?_);first|refine AF c1 ?_|refine AF c2 ?_)<;>try (simp -implicitDefEqProofs only[go_sem,Aa,AP,Ah,Af,w1]))|simp (disch:=omega) only[Al] )
  all_goals first|rfl|(simp;done)
def Bv.near (s:Bv):Prop:=(-100<=s.at'/\s.at'<=100)/\(-100<=s.sp/\s.sp<=100)
theorem Nc {a:A1}(g:a.Good) {s:Bv}(h:a.has s=true):s.near:=by
 have:=g.l;have:=g.s
 rw[UX] at h
 unfold Bv.near;omega
theorem JO (a:A1) (g:a.Good) (s:Bv) (hs:s.near) (c k:Int) (hc:-4<=c/\c<=4) (hk:-2<=k/\k<=2):Ca E0 K9 [FW a,F7 s,.int .i64 c,.int .i64 k] (.tup [F7 (R3 s c k),.bool (a.has (R3 s c k))]):=by
 refine AW Ox Aq (by simp) fun hwf=>?_
 obtain⟨⟨h1,h2⟩,h3,h4⟩:=hs
 have c1:=Pa a g (R3 s c k)
 have w1:IntKind.i64.wrap (c+k)=c+k:=Ad _ (by omega)
 have w2:IntKind.i64.wrap (s.sp+(c+k))=s.sp+(c+k):=Ad _ (by omega)
 have w3:IntKind.i64.wrap (s.at'+(s.sp+(c+k)))=s.at'+(s.sp+(c+k)):=Ad _ (by omega)
 obtain⟨B,hB⟩:∃B,a.has (R3 s c k)=B:=⟨_,rfl⟩
 rw[hB] at c1 ⊢
 unfold R3 at c1 ⊢
 rw[AZ];unfold Ji
 cases B
 all_goals ((try (simp -implicitDefEqProofs only[go_sem,Aa,AP,Ah,Af,w1,w2,w3]));repeat' first|(with_reducible first|exact tI|refine aI ?_ ?_|intro _)|((first|with_reducible refine AU ?_ ?_<;>intro _|(with_reducible refine isCall ?_);first|refine AF c1 ?_)<;>try (simp -implicitDefEqProofs only[go_sem,Aa,AP,Ah,Af,w1,w2,w3]))|simp (disch:=omega) only[Al] )
 all_goals first|rfl|(simp_all;done)
theorem H7 (a:A1) (g:a.Good):Ru E0 GP [FW a] [] (a.spots.map fun s=>[F7 s]):=by
 have g1:=g.l;have g2:=g.s
 have hlen:=Sw a
 obtain⟨els,hels⟩:∃els,(a.spots.map fun s=>[F7 s])=els:=⟨_,rfl⟩
 have hel:els.length=(a.last+1).toNat * (2*a.speed+1).toNat:=by rw[←hels,List.length_map,hlen]
 obtain⟨A,hA⟩:∃A,(a.last+1).toNat=A:=⟨_,rfl⟩
 obtain⟨M,hM⟩:∃M,(2*a.speed+1).toNat=M:=⟨_,rfl⟩
 have hget:∀i j,i<A->j<M->els[i*M+j]?=some [.agg [.int .i64 (i:Int),.int .i64 ((j:Int)-a.speed)]]:=fun i j hi hj=>by
  rw[←hels,List.getElem?_map,←hM,ZP a (by rw[hA];exact hi) (by rw[hM];exact hj)];rfl
 rw[hA,hM] at hel
 rw[hels]
 refine I4 Nu Aq ZO (by simp) fun hwf _=>?_
 rw[Dv];unfold Ft
 have w1:IntKind.i64.wrap (a.last+1)=a.last+1:=Ad _ (by omega)
 have w2:IntKind.i64.wrap (0-a.speed)=-a.speed:=by rw[Ad _ (by omega)];omega
 (try (simp -implicitDefEqProofs only[go_sem,Aa,AP,w1]));repeat' first|(with_reducible first|exact tI|refine aI ?_ ?_|intro _)|((first|with_reducible refine AU ?_ ?_<;>intro _)<;>try (simp -implicitDefEqProofs only[go_sem,Aa,AP,w1]))|simp (disch:=omega) only[Al]|((with_reducible refine Ba ?_);refine⟨(_,_,_),rfl,?_,?_⟩)|((with_reducible refine A0 ?_);refine⟨(_,_),rfl,?_,?_⟩)
 all_goals first|omega|(simp<;>omega)|skip
 refine Ao (α:=Nat×Nat) (l0:=?l1) (m0:=?m1) (fun x=>[(10,.d (.int .i64 (x.1:Int)))]) (fun x=>[(900001,.hist els x.2 false)]) (fun x=>x.1<=A/\x.2=x.1*M) (fun x=>A-x.1) (0,0) ?h01 ?he1 ?he21 ?hI1 ?step1
 case h01=>(simp -implicitDefEqProofs only[go_sem];rfl)
 case he1=>rfl
 case he21=>rfl
 case' step1=>(rintro⟨i,n⟩ hI;try dsimp only at hI)
 case' hI1=>try dsimp only
 ·exact⟨Nat.zero_le _,(Nat.zero_mul _).symm⟩
 ·obtain⟨i1,i2⟩:=hI
  change n=i*M at i2
  by_cases hi:i<A
  ·have hi':(i:Int)<a.last+1:=by omega
   have wi:IntKind.i64.wrap ((i:Int)+1)=((i+1:Nat):Int):=by rw[Ad _ (by omega)];omega
   (try (simp -implicitDefEqProofs only[go_sem,AP,hi',w2]));repeat' first|(with_reducible first|exact tI|refine aI ?_ ?_|intro _)|((first|with_reducible refine AU ?_ ?_<;>intro _)<;>try (simp -implicitDefEqProofs only[go_sem,AP,hi',w2]))|simp (disch:=omega) only[Al]|((with_reducible refine Ba ?_);refine⟨(_,_,_),rfl,?_,?_⟩)|((with_reducible refine A0 ?_);refine⟨(_,_),rfl,?_,?_⟩)
   all_goals first|omega|(simp<;>omega)|skip
   refine Ao (α:=Nat×Int×Nat) (l0:=?l2) (m0:=?m2) (fun x=>[(5,.d (.int .i64 x.2.1))]) (fun x=>[(900001,.hist els x.2.2 false)]) (fun x=>x.1<=M/\x.2.1=(x.1:Int)-a.speed/\x.2.2=i*M+x.1) (fun x=>M-x.1) (0,(-a.speed),n) ?h02 ?he2 ?he22 ?hI2 ?step2
   case h02=>(simp -implicitDefEqProofs only[go_sem];rfl)
   case he2=>rfl
   case he22=>rfl
   case' step2=>(rintro⟨j,v,n⟩ hI2;try dsimp only at hI2)
   case' hI2=>try dsimp only
   ·exact⟨Nat.zero_le _,by show -a.speed=_;omega,i2⟩
   ·obtain⟨j1,j2,j3⟩:=hI2
    change v=(j:Int)-a.speed at j2
    change n=i*M+j at j3
    by_cases hj:j<M
    ·have hj':v<=a.speed:=by omega
     have hg:=hget i j hi hj
     rw[←j2,←j3] at hg
     have wj:IntKind.i64.wrap (v+1)=v+1:=Ad _ (by omega)
     (try (simp -implicitDefEqProofs only[go_sem,AP,hj',hg,wj,Gv,Cp]));repeat' first|(with_reducible first|exact tI|refine aI ?_ ?_|intro _)|((first|with_reducible refine AU ?_ ?_<;>intro _)<;>try (simp -implicitDefEqProofs only[go_sem,AP,hj',hg,wj,Gv,Cp]))|simp (disch:=omega) only[Al]|((with_reducible refine Ba ?_);refine⟨(_,_,_),rfl,?_,?_⟩)|((with_reducible refine A0 ?_);refine⟨(_,_),rfl,?_,?_⟩)
     all_goals first|omega|(simp<;>omega)|skip
     all_goals exact⟨(j+1,v+1,n+1),rfl,⟨by show j+1<=M;omega,by show v+1=((j+1:Nat):Int)-a.speed;omega,by show n+1=i*M+(j+1);omega⟩,by show M-(j+1)<M-j;omega⟩
    ·have hj':¬v<=a.speed:=by omega
     have hn:n=(i+1)*M:=by rw[Nat.succ_mul];omega
     (try (simp -implicitDefEqProofs only[go_sem,AP,hj',wi]));repeat' first|(with_reducible first|exact tI|refine aI ?_ ?_|intro _)|((first|with_reducible refine AU ?_ ?_<;>intro _)<;>try (simp -implicitDefEqProofs only[go_sem,AP,hj',wi]))|simp (disch:=omega) only[Al]|((with_reducible refine Ba ?_);refine⟨(_,_,_),rfl,?_,?_⟩)|((with_reducible refine A0 ?_);refine⟨(_,_),rfl,?_,?_⟩)
     all_goals first|omega|(simp<;>omega)|skip
  ·have hi':¬(i:Int)<a.last+1:=by omega
   have hiA:i=A:=by omega
   have hn:n=els.length:=by rw[hel,i2,hiA]
   (try (simp -implicitDefEqProofs only[go_sem,AP,hi',F9,Cp]));repeat' first|(with_reducible first|exact tI|refine aI ?_ ?_|intro _)|((first|with_reducible refine AU ?_ ?_<;>intro _)<;>try (simp -implicitDefEqProofs only[go_sem,AP,hi',F9,Cp]))|simp (disch:=omega) only[Al]|((with_reducible refine Ba ?_);refine⟨(_,_,_),rfl,?_,?_⟩)|((with_reducible refine A0 ?_);refine⟨(_,_),rfl,?_,?_⟩)
   all_goals first|omega|(simp<;>omega)|skip
end Go.Pw
end
section
open Go Go.Pw Go.Proofs
namespace Go.Pw
set_option maxRecDepth 100000
set_option maxHeartbeats 3200000
def Oj (es:List BT):List (Nat×D×D):=es.map fun e=>(e.1,F7 e.2.1,.int .i64 e.2.2)
def Vs (es:List BT):List (D×D):=es.map fun e=>(F7 e.2.1,.int .i64 e.2.2)
theorem Fx (es:List BT):(Oj es).map (·.2)=Vs es:=by simp[Oj,Vs]
theorem lf (x y:Bv):DC (F7 x) (F7 y)=decide (x=y):=by
 rw[Bool.eq_iff_iff,decide_eq_true_eq]
 obtain⟨a,b⟩:=x;obtain⟨c,d⟩:=y
 simp[DC,F7,i6,D.cells,EP,FM]
theorem i_ (es:List BT) (x:Bv):FP (F7 x) (Vs es)=(Cv es x).map (D.int .i64):=by
 induction es with
 |nil=>rfl
 |cons e es ih =>
  show (if DC (F7 x) (F7 e.2.1)=true then some (D.int .i64 e.2.2) else FP (F7 x) (Vs es))=_
  rw[lf,ih]
  unfold Cv
  rw[List.find?_cons]
  by_cases h:x=e.2.1
  ·subst h;simp
  ·rw[decide_eq_false h,decide_eq_false (fun h'=>h h'.symm)];simp
theorem J8 (x:Bv):Fo Sp (F7 x)=true:=by simp[Fo,F7,i6,D.isAgg,D.cells,Dk]
theorem IR {es:List BT}{x:Bv}{v:Int}(h:Cv es x=some v):FP (F7 x) (Vs es)=some (.int .i64 v):=by rw[i_,h];rfl
theorem IT {es:List BT}{x:Bv}(h:Cv es x=none):FP (F7 x) (Vs es)=none:=by rw[i_,h];rfl
def l9 (t:D) (p:Bv->Bool):Prop:=(∃f cs,t=.bnd f cs/\BC E0.P f=true/\Aw AV.toD1 (cs.map .d)=some cs/\∀x,Ca E0 f (cs++[F7 x]) (.bool (p x))) \/
 (∃f cs,t=.fn f cs/\BC E0.P f=true/\Aw AV.toD1 (cs.map .d)=some cs/\∀x,Ca E0 f (F7 x::cs) (.bool (p x)))
theorem Wg {cs:List D}{x:AV}{d:D}(h:Aw AV.toD1 (cs.map .d)=some cs) (hx:x.toD1=some d):Ea (cs.map .d++[x])=some (cs++[d]):=by
 have key:∀(l r:List D),Aw AV.toD1 (l.map .d)=some r->Aw AV.toD1 (l.map .d++[x])=some (r++[d]):=by
  intro l
  induction l with
  |nil=>intro r h;simp only[List.map_nil,Aw,Option.some.injEq] at h;subst h;simp[Aw,hx]
  |cons y l ih =>
   intro r h
   simp only[List.map_cons,List.cons_append,Aw] at h ⊢
   cases hy:AV.toD1 (.d y) with
   |none=>rw[hy] at h;cases h
   |some z =>
    rw[hy] at h
    cases hl:Aw AV.toD1 (l.map .d) with
    |none=>simp only[hl] at h;cases h
    |some q=>simp only[hl,Option.some.injEq] at h;subst h;simp only[ih q hl];rfl
 exact key cs cs h
attribute [local congr] DX B3 B4 Bc DZ Bj Bl Bk Bb BN BF A6 Be BG Bg CD CE CF Cd Ce B9 Bf BL Bi BM B8 Cf BK CB CC B_ B6 B7 B2 DY B5 Bd BI BH BJ Bh CA
attribute [local irreducible] IntKind.wrap CK Option.getD and or
theorem F8 (es:List BT) (x:Bv):Ca E0 E5 [.map Sp (Vs es),F7 x] (.bool (CI es x)):=by
 refine AW QJ Aq (by simp) fun hwf=>?_
 have ht:=J8 x
 rw[AZ];unfold Ka CI
 cases hv:Cv es x with
 |none =>
  have hl:=IT hv
  rw[Ah,Af] at hl ht
  (try (simp -implicitDefEqProofs only[go_sem,Ah,Af,hl,ht]));repeat' first|(with_reducible first|exact tI|refine aI ?_ ?_|intro _)|((first|with_reducible refine AU ?_ ?_<;>intro _)<;>try (simp -implicitDefEqProofs only[go_sem,Ah,Af,hl,ht]))|simp (disch:=omega) only[Al]
  all_goals first|rfl|trace_state
 |some v =>
  have hl:=IR hv
  rw[Ah,Af] at hl ht
  (try (simp -implicitDefEqProofs only[go_sem,Ah,Af,hl,ht]));repeat' first|(with_reducible first|exact tI|refine aI ?_ ?_|intro _)|((first|with_reducible refine AU ?_ ?_<;>intro _)<;>try (simp -implicitDefEqProofs only[go_sem,Ah,Af,hl,ht]))|simp (disch:=omega) only[Al]
  all_goals first|rfl|trace_state
theorem GO (a:A1) (g:a.Good) (s:Bv) (hs:s.near) (t:D) (p:Bv->Bool) (ht:l9 t p):Ca E0 Hw [FW a,F7 s,t] (.tup [.int .i64 ((HQ a p s).getD 0),.bool (HQ a p s).isSome]):=by
 refine AW Lh Aq (by simp) fun hwf=>?_
 have g1:=g.f;have g2:=g.k
 have w1:IntKind.i64.wrap (0-a.force)=-a.force:=by rw[Ad _ (by omega)];omega
 have w2:IntKind.i64.wrap (0-a.shake)=-a.shake:=by rw[Ad _ (by omega)];omega
 rw[AZ];unfold G_
 rcases ht with⟨f,cs,rfl,hb,hcs,ht⟩|⟨f,cs,rfl,hb,hcs,ht⟩
 ·(try (simp -implicitDefEqProofs only[go_sem,Aa,AP,Ah,Af,w1]));repeat' first|(with_reducible first|exact tI|refine aI ?_ ?_|intro _)|((first|with_reducible refine AU ?_ ?_<;>intro _)<;>try (simp -implicitDefEqProofs only[go_sem,Aa,AP,Ah,Af,w1]))|simp (disch:=omega) only[Al]|((with_reducible refine A5 ?_);refine⟨_,rfl,?_,?_⟩)
  all_goals first|omega|(simp<;>omega)|skip
  refine Ao (α:=Int) (l0:=?l1) (m0:=?m1) (fun x=>[(8,.d (.int .i64 x))]) (fun x=>[]) (fun x=>(-a.force<=x/\x<=a.force+1)/\∀d,-a.force<=d->d<x->Xh a p s d=false) (fun x=>(a.force+1-x).toNat) (-a.force) ?h01 ?he1 ?he21 ?hI1 ?step1
  case h01=>(simp -implicitDefEqProofs only[go_sem];rfl)
  case he1=>rfl
  case he21=>rfl
  case' step1=>(rintro c hI;try dsimp only at hI)
  case' hI1=>try dsimp only
  ·exact⟨by omega,fun d h1 h2=>by omega⟩
  ·obtain⟨⟨c1,c2⟩,c3⟩:=hI
   by_cases hc:c<=a.force
   ·have wc:IntKind.i64.wrap (c+1)=c+1:=Ad _ (by omega)
    have hstep:Xh a p s c=false->∀d,-a.force<=d->d<c+1->Xh a p s d=false:=fun ho d h1 h2=>by
     by_cases hdc:d=c
     ·subst hdc;exact ho
     ·exact c3 d h1 (by omega)
    (try (simp -implicitDefEqProofs only[go_sem,AP,hc,w2]));repeat' first|(with_reducible first|exact tI|refine aI ?_ ?_|intro _)|((first|with_reducible refine AU ?_ ?_<;>intro _)<;>try (simp -implicitDefEqProofs only[go_sem,AP,hc,w2]))|simp (disch:=omega) only[Al]|((with_reducible refine A5 ?_);refine⟨_,rfl,?_,?_⟩)
    all_goals first|omega|(simp<;>omega)|skip
    refine Ao (α:=Int) (l0:=?l2) (m0:=?m2) (fun x=>[(9,.d (.int .i64 x))]) (fun x=>[]) (fun x=>(-a.shake<=x/\x<=a.shake+1)/\∀d,-a.shake<=d->d<x->RM a p s c d=true) (fun x=>(a.shake+1-x).toNat) (-a.shake) ?h02 ?he2 ?he22 ?hI2 ?step2
    case h02=>(simp -implicitDefEqProofs only[go_sem];rfl)
    case he2=>rfl
    case he22=>rfl
    case' step2=>(rintro k hI2;try dsimp only at hI2)
    case' hI2=>try dsimp only
    ·exact⟨by omega,fun d h1 h2=>by omega⟩
    ·obtain⟨⟨k1,k2⟩,k3⟩:=hI2
     by_cases hk:k<=a.shake
     ·have wk:IntKind.i64.wrap (k+1)=k+1:=Ad _ (by omega)
      have cS:=JO a g s hs c k (by omega) (by omega)
      have hT:=ht (R3 s c k)
      have hfit:RM a p s c k=(a.has (R3 s c k) && p (R3 s c k)):=rfl
      obtain⟨n,hn⟩:∃n,R3 s c k=n:=⟨_,rfl⟩
      rw[hn] at cS hT hfit
      rw[Aa,AP,Ah,Af,Ah,Af] at cS
      cases hh:a.has n with
      |false =>
       rw[hh] at cS
       have hno:=hstep (UT k1 hk (by rw[hfit,hh];simp))
       (try (simp -implicitDefEqProofs only[go_sem,AP,hk,Af,wc]));repeat' first|(with_reducible first|exact tI|refine aI ?_ ?_|intro _)|((first|with_reducible refine AU ?_ ?_<;>intro _|(with_reducible refine isCall ?_);first|refine AF cS ?_)<;>try (simp -implicitDefEqProofs only[go_sem,AP,hk,Af,wc]))|simp (disch:=omega) only[Al]|((with_reducible refine A5 ?_);refine⟨_,rfl,?_,?_⟩)
       all_goals first|omega|exact hno|exact hno _ (by assumption) (by assumption)|skip
      |true =>
       rw[hh] at cS
       obtain⟨B,hB⟩:∃B,p n=B:=⟨_,rfl⟩
       rw[hB] at hT
       rw[hh,hB] at hfit
       (try (simp -implicitDefEqProofs only[go_sem,AP,hk,Af]));repeat' first|(with_reducible first|exact tI|refine aI ?_ ?_|intro _)|((first|with_reducible refine AU ?_ ?_<;>intro _|(with_reducible refine isCall ?_);first|refine AF cS ?_)<;>try (simp -implicitDefEqProofs only[go_sem,AP,hk,Af]))|simp (disch:=omega) only[Al]|((with_reducible refine A5 ?_);refine⟨_,rfl,?_,?_⟩)
       all_goals first|omega|exact hb|skip
       refine Mk hT (Wg hcs rfl) ?_
       cases B with
       |false =>
        have hno:=hstep (UT k1 hk (by rw[hfit];simp))
        (try (simp -implicitDefEqProofs only[go_sem,AP,hk,Af,wc]));repeat' first|(with_reducible first|exact tI|refine aI ?_ ?_|intro _)|((first|with_reducible refine AU ?_ ?_<;>intro _)<;>try (simp -implicitDefEqProofs only[go_sem,AP,hk,Af,wc]))|simp (disch:=omega) only[Al]|((with_reducible refine A5 ?_);refine⟨_,rfl,?_,?_⟩)
        all_goals first|omega|exact hno|exact hno _ (by assumption) (by assumption)|skip
       |true =>
        have hyes:∀d,-a.shake<=d->d<k+1->RM a p s c d=true:=fun d h1 h2=>by
         by_cases hdk:d=k
         ·subst hdk;rw[hfit];simp
         ·exact k3 d h1 (by omega)
        (try (simp -implicitDefEqProofs only[go_sem,AP,hk,Af,wk]));repeat' first|(with_reducible first|exact tI|refine aI ?_ ?_|intro _)|((first|with_reducible refine AU ?_ ?_<;>intro _)<;>try (simp -implicitDefEqProofs only[go_sem,AP,hk,Af,wk]))|simp (disch:=omega) only[Al]|((with_reducible refine A5 ?_);refine⟨_,rfl,?_,?_⟩)
        all_goals first|omega|exact hyes|exact hyes _ (by assumption) (by assumption)|skip
     ·have hcm:HQ a p s=some c:=Tf c1 hc c3 (NO.2 fun d h1 h2=>k3 d h1 (by omega))
      rw[hcm,Option.getD_some,Option.isSome_some]
      (try (simp -implicitDefEqProofs only[go_sem,AP,hk]));repeat' first|(with_reducible first|exact tI|refine aI ?_ ?_|intro _)|((first|with_reducible refine AU ?_ ?_<;>intro _)<;>try (simp -implicitDefEqProofs only[go_sem,AP,hk]))|simp (disch:=omega) only[Al]|((with_reducible refine A5 ?_);refine⟨_,rfl,?_,?_⟩)
      all_goals first|omega|rfl|skip
   ·have hcm:HQ a p s=none:=WY fun d h1 h2=>c3 d h1 (by omega)
    rw[hcm,show (none:Option Int).getD 0=0 from by simp,Option.isSome_none]
    (try (simp -implicitDefEqProofs only[go_sem,AP,hc]));repeat' first|(with_reducible first|exact tI|refine aI ?_ ?_|intro _)|((first|with_reducible refine AU ?_ ?_<;>intro _)<;>try (simp -implicitDefEqProofs only[go_sem,AP,hc]))|simp (disch:=omega) only[Al]|((with_reducible refine A5 ?_);refine⟨_,rfl,?_,?_⟩)
    all_goals first|omega|rfl|skip
 ·(try (simp -implicitDefEqProofs only[go_sem,Aa,AP,Ah,Af,w1]));repeat' first|(with_reducible first|exact tI|refine aI ?_ ?_|intro _)|((first|with_reducible refine AU ?_ ?_<;>intro _)<;>try (simp -implicitDefEqProofs only[go_sem,Aa,AP,Ah,Af,w1]))|simp (disch:=omega) only[Al]|((with_reducible refine A5 ?_);refine⟨_,rfl,?_,?_⟩)
  all_goals first|omega|(simp<;>omega)|skip
  refine Ao (α:=Int) (l0:=?l3) (m0:=?m3) (fun x=>[(8,.d (.int .i64 x))]) (fun x=>[]) (fun x=>(-a.force<=x/\x<=a.force+1)/\∀d,-a.force<=d->d<x->Xh a p s d=false) (fun x=>(a.force+1-x).toNat) (-a.force) ?h03 ?he3 ?he23 ?hI3 ?step3
  case h03=>(simp -implicitDefEqProofs only[go_sem];rfl)
  case he3=>rfl
  case he23=>rfl
  case' step3=>(rintro c hI3;try dsimp only at hI3)
  case' hI3=>try dsimp only
  ·exact⟨by omega,fun d h1 h2=>by omega⟩
  ·obtain⟨⟨c1,c2⟩,c3⟩:=hI3
   by_cases hc:c<=a.force
   ·have wc:IntKind.i64.wrap (c+1)=c+1:=Ad _ (by omega)
    have hstep:Xh a p s c=false->∀d,-a.force<=d->d<c+1->Xh a p s d=false:=fun ho d h1 h2=>by
     by_cases hdc:d=c
     ·subst hdc;exact ho
     ·exact c3 d h1 (by omega)
    (try (simp -implicitDefEqProofs only[go_sem,AP,hc,w2]));repeat' first|(with_reducible first|exact tI|refine aI ?_ ?_|intro _)|((first|with_reducible refine AU ?_ ?_<;>intro _)<;>try (simp -implicitDefEqProofs only[go_sem,AP,hc,w2]))|simp (disch:=omega) only[Al]|((with_reducible refine A5 ?_);refine⟨_,rfl,?_,?_⟩)
    all_goals first|omega|(simp<;>omega)|skip
    refine Ao (α:=Int) (l0:=?l4) (m0:=?m4) (fun x=>[(9,.d (.int .i64 x))]) (fun x=>[]) (fun x=>(-a.shake<=x/\x<=a.shake+1)/\∀d,-a.shake<=d->d<x->RM a p s c d=true) (fun x=>(a.shake+1-x).toNat) (-a.shake) ?h04 ?he4 ?he24 ?hI4 ?step4
    case h04=>(simp -implicitDefEqProofs only[go_sem];rfl)
    case he4=>rfl
    case he24=>rfl
    case' step4=>(rintro k hI4;try dsimp only at hI4)
    case' hI4=>try dsimp only
    ·exact⟨by omega,fun d h1 h2=>by omega⟩
    ·obtain⟨⟨k1,k2⟩,k3⟩:=hI4
     by_cases hk:k<=a.shake
     ·have wk:IntKind.i64.wrap (k+1)=k+1:=Ad _ (by omega)
      have cS:=JO a g s hs c k (by omega) (by omega)
      have hT:=ht (R3 s c k)
      have hfit:RM a p s c k=(a.has (R3 s c k) && p (R3 s c k)):=rfl
      obtain⟨n,hn⟩:∃n,R3 s c k=n:=⟨_,rfl⟩
      rw[hn] at cS hT hfit
      rw[Aa,AP,Ah,Af,Ah,Af] at cS
      cases hh:a.has n with
      |false =>
       rw[hh] at cS
       have hno:=hstep (UT k1 hk (by rw[hfit,hh];simp))
       (try (simp -implicitDefEqProofs only[go_sem,AP,hk,Af,wc]));repeat' first|(with_reducible first|exact tI|refine aI ?_ ?_|intro _)|((first|with_reducible refine AU ?_ ?_<;>intro _|(with_reducible refine isCall ?_);first|refine AF cS ?_)<;>try (simp -implicitDefEqProofs only[go_sem,AP,hk,Af,wc]))|simp (disch:=omega) only[Al]|((with_reducible refine A5 ?_);refine⟨_,rfl,?_,?_⟩)
       all_goals first|omega|exact hno|exact hno _ (by assumption) (by assumption)|skip
      |true =>
       rw[hh] at cS
       obtain⟨B,hB⟩:∃B,p n=B:=⟨_,rfl⟩
       rw[hB] at hT
       rw[hh,hB] at hfit
       (try (simp -implicitDefEqProofs only[go_sem,AP,hk,Af]));repeat' first|(with_reducible first|exact tI|refine aI ?_ ?_|intro _)|((first|with_reducible refine AU ?_ ?_<;>intro _|(with_reducible refine isCall ?_);first|refine AF cS ?_)<;>try (simp -implicitDefEqProofs only[go_sem,AP,hk,Af]))|simp (disch:=omega) only[Al]|((with_reducible refine A5 ?_);refine⟨_,rfl,?_,?_⟩)
       all_goals first|omega|exact hb|skip
       refine Mk hT (Ho rfl hcs) ?_
       cases B with
       |false =>
        have hno:=hstep (UT k1 hk (by rw[hfit];simp))
        (try (simp -implicitDefEqProofs only[go_sem,AP,hk,Af,wc]));repeat' first|(with_reducible first|exact tI|refine aI ?_ ?_|intro _)|((first|with_reducible refine AU ?_ ?_<;>intro _)<;>try (simp -implicitDefEqProofs only[go_sem,AP,hk,Af,wc]))|simp (disch:=omega) only[Al]|((with_reducible refine A5 ?_);refine⟨_,rfl,?_,?_⟩)
        all_goals first|omega|exact hno|exact hno _ (by assumption) (by assumption)|skip
       |true =>
        have hyes:∀d,-a.shake<=d->d<k+1->RM a p s c d=true:=fun d h1 h2=>by
         by_cases hdk:d=k
         ·subst hdk;rw[hfit];simp
         ·exact k3 d h1 (by omega)
        (try (simp -implicitDefEqProofs only[go_sem,AP,hk,Af,wk]));repeat' first|(with_reducible first|exact tI|refine aI ?_ ?_|intro _)|((first|with_reducible refine AU ?_ ?_<;>intro _)<;>try (simp -implicitDefEqProofs only[go_sem,AP,hk,Af,wk]))|simp (disch:=omega) only[Al]|((with_reducible refine A5 ?_);refine⟨_,rfl,?_,?_⟩)
        all_goals first|omega|exact hyes|exact hyes _ (by assumption) (by assumption)|skip
     ·have hcm:HQ a p s=some c:=Tf c1 hc c3 (NO.2 fun d h1 h2=>k3 d h1 (by omega))
      rw[hcm,Option.getD_some,Option.isSome_some]
      (try (simp -implicitDefEqProofs only[go_sem,AP,hk]));repeat' first|(with_reducible first|exact tI|refine aI ?_ ?_|intro _)|((first|with_reducible refine AU ?_ ?_<;>intro _)<;>try (simp -implicitDefEqProofs only[go_sem,AP,hk]))|simp (disch:=omega) only[Al]|((with_reducible refine A5 ?_);refine⟨_,rfl,?_,?_⟩)
      all_goals first|omega|rfl|skip
   ·have hcm:HQ a p s=none:=WY fun d h1 h2=>c3 d h1 (by omega)
    rw[hcm,show (none:Option Int).getD 0=0 from by simp,Option.isSome_none]
    (try (simp -implicitDefEqProofs only[go_sem,AP,hc]));repeat' first|(with_reducible first|exact tI|refine aI ?_ ?_|intro _)|((first|with_reducible refine AU ?_ ?_<;>intro _)<;>try (simp -implicitDefEqProofs only[go_sem,AP,hc]))|simp (disch:=omega) only[Al]|((with_reducible refine A5 ?_);refine⟨_,rfl,?_,?_⟩)
    all_goals first|omega|rfl|skip
end Go.Pw
end
section
open Go Go.Pw Go.Proofs
namespace Go.Pw
set_option maxRecDepth 100000
set_option maxHeartbeats 3200000
theorem li (es:List BT) (x:Bv):EJ (F7 x) (Vs es)=es.findIdx? fun e=>decide (e.2.1=x):=by
 induction es with
 |nil=>rfl
 |cons e es ih =>
  show (if DC (F7 x) (F7 e.2.1)=true then some 0 else (EJ (F7 x) (Vs es)).map (·+1))=_
  rw[lf,ih,List.findIdx?_cons]
  by_cases h:x=e.2.1
  ·subst h;simp
  ·rw[decide_eq_false h,decide_eq_false (fun h'=>h h'.symm)]
theorem aU {es:List BT}{x:Bv}(h:Cv es x=none):EJ (F7 x) (Vs es)=none:=by
 rw[li,List.findIdx?_eq_none_iff]
 intro e he
 rw[decide_eq_false_iff_not]
 intro hx
 have:CI es x=true:=Kf.2 ⟨e,he,hx⟩
 unfold CI at this
 rw[h] at this;cases this
theorem eo (es:List BT) (e:BT):Oj es++[(e.1,F7 e.2.1,.int .i64 e.2.2)]=Oj (es++[e]):=by simp[Oj]
theorem Yf {es:List BT}{x:Bv}{v:Int}{cl:Nat}(h:Cv es x=none):fW (F7 x) (.int .i64 v) (Oj es) cl=Oj (es++[(cl,x,v)])/\fX (F7 x) (Oj es) cl=cl+1:=by
 unfold fW fX
 rw[Fx,aU h]
 exact⟨eo es (cl,x,v),rfl⟩
theorem Ni {x:Bv}:∀(es:List BT),Lk es->(match es.findIdx? fun e=>decide (e.2.1=x) with|some i=>es.eraseIdx i|none=>es)=es.filter fun e=>!decide (e.2.1=x)
 |[],_=>rfl
 |e::es,h=>by
  unfold Lk at h
  rw[List.map_cons,List.nodup_cons] at h
  rw[List.findIdx?_cons,List.filter_cons]
  by_cases hx:e.2.1=x
  ·rw[decide_eq_true hx]
   simp only[if_true,Bool.not_true,Bool.false_eq_true,if_false,List.eraseIdx_cons_zero]
   symm
   rw[List.filter_eq_self]
   intro f hf
   simp only[Bool.not_eq_true',decide_eq_false_iff_not]
   intro hfx
   exact h.1 (by rw[hx,←hfx];exact List.mem_map_of_mem (f:=fun e:BT=>e.2.1) hf)
  ·rw[decide_eq_false hx]
   simp only[Bool.false_eq_true,if_false,Bool.not_false,if_true]
   rw[←Ni es h.2]
   cases es.findIdx? fun e=>decide (e.2.1=x)<;>simp
theorem TY {α β:Type}(f:α->β):∀(l:List α) (i:Nat),(l.map f).eraseIdx i=(l.eraseIdx i).map f
 |[],i=>rfl
 |x::l,0=>rfl
 |x::l,i+1=>congrArg (f x :: ·) (TY f l i)
theorem iW {es:List BT}(h:Lk es) (x:Bv):iX (F7 x) (Oj es)=Oj (es.filter fun e=>!decide (e.2.1=x)):=by
 unfold iX
 rw[Fx,li,←Ni es h]
 cases es.findIdx? fun e=>decide (e.2.1=x) with
 |none=>rfl
 |some i =>
  show (Oj es).eraseIdx i=Oj (es.eraseIdx i)
  exact TY _ es i
def Ux (es:List BT):Prop:=(es.map (·.1)).Nodup
theorem IY:∀{es:List BT},Ux es->∀{e},e∈es->(Oj es).find? (fun f=>f.1 == e.1)=some (e.1,F7 e.2.1,.int .i64 e.2.2)
 |[],_,e,h=>by cases h
 |f::es,hn,e,h=>by
  unfold Ux at hn
  rw[List.map_cons,List.nodup_cons] at hn
  show ((f.1,F7 f.2.1,D.int .i64 f.2.2)::Oj es).find? (fun f=>f.1 == e.1)=_
  rw[List.find?_cons]
  rcases List.mem_cons.1 h with rfl|h
  ·simp
  ·have hne:(f.1 == e.1)=false:=by
    rw[beq_eq_false_iff_ne]
    intro he
    exact hn.1 (by rw[he];exact List.mem_map_of_mem (f:=fun e:BT=>e.1) h)
   simp only[hne]
   exact IY hn.2 h
theorem dc (l:List Bv) (cl:Nat) (v:Int):Ux (EW l cl v):=by
 unfold Ux EW
 rw[List.map_map]
 show ((l.zipIdx).map (fun p=>cl+p.2)).Nodup
 have h:(l.zipIdx).map (fun p=>cl+p.2)=(List.range' 0 l.length).map (cl+·):=by
  rw[←List.zipIdx_map_snd 0 l,List.map_map];rfl
 rw[h,List.Nodup,List.pairwise_map]
 exact List.Pairwise.imp (fun hxy he=>hxy (by omega)) (List.nodup_range' (step:=1) (by omega))
theorem Xi {es:List BT}(h:Ux es) (q:BT->Bool):Ux (es.filter q):=List.Nodup.sublist (List.Sublist.map _ List.filter_sublist) h
theorem PT {es:List BT}(h:Lk es) (q:BT->Bool):Lk (es.filter q):=List.Nodup.sublist (List.Sublist.map _ List.filter_sublist) h
structure KI (a:A1) (p:Bv->Bool) (es:List BT):Prop where
 d:Lk es
 n:Ux es
 s:∀e,e∈es->a.has e.2.1=true
 k:∃K,es.length<=K/\Jn a K es=E2 a p
 b:es.length<=697
theorem Gt {a:A1}(g:a.Good):a.spots.length<=697:=by
 have g1:=g.l;have g2:=g.s
 rw[Sw]
 exact Nat.le_trans (Nat.mul_le_mul (show (a.last+1).toNat<=41 by omega) (show (2*a.speed+1).toNat<=17 by omega)) (by decide)
theorem dz (a:A1) (g:a.Good) (p:Bv->Bool):KI a p (GX a p) where
 d:=by
  unfold Lk GX
  rw[NP]
  exact List.Nodup.sublist List.filter_sublist (F6 a)
 n:=dc _ _ _
 s:=fun e he=>IA.1 (List.mem_filter.1 (EV he).2).1
 k:=⟨_,Nat.le_refl _,rfl⟩
 b:=by
  unfold GX
  rw[Vk]
  exact Nat.le_trans (List.length_filter_le _ _) (Gt g)
theorem gn {a:A1}{p:Bv->Bool}{es:List BT}(h:KI a p es) (hne:Fj a es≠es):KI a p (Fj a es)/\(Fj a es).length<es.length:=by
 have hle:(Fj a es).length<=es.length:=List.length_filter_le _ _
 have hlt:(Fj a es).length≠es.length:=fun he=>hne (by
  unfold Fj at he ⊢
  exact List.filter_eq_self.2 (List.length_filter_eq_length_iff.1 he))
 refine⟨⟨PT h.d _,Xi h.n _,fun e he=>h.s e (List.mem_filter.1 he).1,?_,by have:=h.b;omega⟩,by omega⟩
 obtain⟨K,h1,h2⟩:=h.k
 match K,h1,h2 with
 |0,h1,h2=>omega
 |K+1,h1,h2 =>
  rw[Jn,if_neg hlt] at h2
  exact⟨K,by omega,h2⟩
theorem kR {a:A1}{p:Bv->Bool}{es:List BT}(h:KI a p es) (he:Fj a es=es):es=E2 a p:=by
 obtain⟨K,h1,h2⟩:=h.k
 rw[←h2]
 match K with
 |0=>rfl
 |K+1=>rw[Jn,if_pos (by rw[he])]
structure Uw (a:A1) (es:List BT) (seen:List Nat) (out:List Bv):Prop where
 b:∀x,x∈out->CI es x=true/\(HQ a (CI es) x).isSome=false
 c:∀e,e∈es->seen.contains e.1=true->(HQ a (CI es) e.2.1).isSome=true\/e.2.1∈out
theorem dR (a:A1) (es:List BT):Uw a es [] []:=⟨fun x h=>(by cases h),fun e _ h=>(by simp at h)⟩
theorem Zy {a:A1}{es:List BT}{seen:List Nat}{out:List Bv}(h:Uw a es seen out) (hn:Ux es) {e:BT}(he:e∈es) (hg:(HQ a (CI es) e.2.1).isSome=true):Uw a es (seen++[e.1]) out:=by
 refine⟨h.b,fun f hf hs=>?_⟩
 rw[List.contains_iff_mem,List.mem_append,List.mem_singleton] at hs
 rcases hs with hs|hs
 ·exact h.c f hf (List.contains_iff_mem.2 hs)
 ·have h1:=IY hn hf
  rw[hs,IY hn he] at h1
  have h2:f=e:=by
   simp only[Option.some.injEq,Prod.mk.injEq] at h1
   obtain⟨x1,⟨x2,x3⟩,x4⟩:=f
   obtain⟨y1,⟨y2,y3⟩,y4⟩:=e
   simp only[F7,i6,D.agg.injEq,List.cons.injEq,D.int.injEq,true_and,and_true] at h1
   simp only[Prod.mk.injEq,Bv.mk.injEq]
   exact⟨hs,⟨h1.1.1.symm,h1.1.2.symm⟩,h1.2.symm⟩
  rw[h2];exact .inl hg
theorem dS {a:A1}{es:List BT}{seen:List Nat}{out:List Bv}(h:Uw a es seen out) (hn:Ux es) {e:BT}(he:e∈es) (hg:(HQ a (CI es) e.2.1).isSome=false):Uw a es (seen++[e.1]) (out++[e.2.1]):=by
 refine⟨fun x hx=>?_,fun f hf hs=>?_⟩
 ·rcases List.mem_append.1 hx with hx|hx
  ·exact h.b x hx
  ·rw[List.mem_singleton] at hx
   rw[hx];exact⟨Kf.2 ⟨e,he,rfl⟩,hg⟩
 ·rw[List.contains_iff_mem,List.mem_append,List.mem_singleton] at hs
  rcases hs with hs|hs
  ·rcases h.c f hf (List.contains_iff_mem.2 hs) with h1|h1
   ·exact .inl h1
   ·exact .inr (List.mem_append_left _ h1)
  ·have h1:=IY hn hf
   rw[hs,IY hn he] at h1
   have h2:f.2.1=e.2.1:=by
    simp only[Option.some.injEq,Prod.mk.injEq] at h1
    obtain⟨x1,⟨x2,x3⟩,x4⟩:=f
    obtain⟨y1,⟨y2,y3⟩,y4⟩:=e
    simp only[F7,i6,D.agg.injEq,List.cons.injEq,D.int.injEq,true_and,and_true] at h1
    simp only[Bv.mk.injEq]
    exact⟨h1.1.1.symm,h1.1.2.symm⟩
   rw[h2];exact .inr (List.mem_append_right _ (List.mem_singleton.2 rfl))
theorem gM {a:A1}{es:List BT}{seen:List Nat}{out:List Bv}(h:Uw a es seen out) (hall:∀e,e∈es->seen.contains e.1=true):(es.filter fun e=>!out.contains e.2.1)=Fj a es:=by
 unfold Fj
 refine List.filter_congr fun e he=>?_
 rw[Bool.eq_iff_iff,Bool.not_eq_true',←Bool.not_eq_true,List.contains_iff_mem]
 constructor
 ·intro hn
  exact(h.c e he (hall e he)).resolve_right hn
 ·intro hs hm
  rw[(h.b _ hm).2] at hs;cases hs
theorem j_ {a:A1}{es:List BT}{seen:List Nat}{out:List Bv}(h:Uw a es seen out) (hne:out≠[]):Fj a es≠es:=by
 intro he
 obtain⟨x,hx⟩:=List.exists_mem_of_ne_nil _ hne
 obtain⟨h1,h2⟩:=h.b x hx
 obtain⟨e,h3,h4⟩:=Kf.1 h1
 unfold Fj at he
 have:=List.filter_eq_self.1 he e h3
 rw[h4,h2] at this;cases this
def MM (es:List BT) (seen:List Nat):Nat:=(es.filter fun e=>!seen.contains e.1).length
theorem ZE {es:List BT}{seen:List Nat}{e:BT}(he:e∈es) (hs:seen.contains e.1=false):MM es (seen++[e.1])<MM es seen:=by
 refine Oh (fun f hf=>?_) he (by rw[hs];rfl) ?_
 ·simp only[Bool.not_eq_true',←Bool.not_eq_true,List.contains_iff_mem,List.mem_append] at hf ⊢
  exact fun h=>hf (.inl h)
 ·simp only[Bool.not_eq_false',List.contains_iff_mem,List.mem_append,List.mem_singleton,or_true]
def Nj (es:List BT) (out:List Bv) (i:Nat):List BT:=es.filter fun e=>!(out.take i).contains e.2.1
theorem iR (es:List BT) (out:List Bv):Nj es out 0=es:=by unfold Nj;simp
theorem bK (es:List BT) (out:List Bv):Nj es out out.length=es.filter fun e=>!out.contains e.2.1:=by unfold Nj;rw[List.take_length]
theorem YL {es:List BT}(h:Lk es) {out:List Bv}{i:Nat}(hi:i<out.length):iX (F7 (out[i]?.getD default)) (Oj (Nj es out i))=Oj (Nj es out (i+1)):=by
 have h1:=iW (PT h fun e=>!(out.take i).contains e.2.1) (out[i]?.getD default)
 unfold Nj
 rw[h1,List.filter_filter]
 congr 1
 refine List.filter_congr fun e _=>?_
 rw[List.take_add_one,List.getElem?_eq_getElem hi,Option.getD_some,Option.toList_some,Bool.eq_iff_iff]
 simp only[Bool.and_eq_true,Bool.not_eq_true',decide_eq_false_iff_not,←Bool.not_eq_true,List.contains_iff_mem,List.mem_append,List.mem_singleton,not_or]
 rw[decide_eq_true_eq]
 exact And.comm
theorem cU {a:A1}{n:Nat}{x:Bv}(h:a.spots[n]?=some x) (p:Bv->Bool) (cl:Nat) (v:Int):Cv (EW ((a.spots.take n).filter p) cl v) x=none:=by
 have hm:=RA ((a.spots.take n).filter p) cl v x
 have hno:x∉(a.spots.take n).filter p:=fun hx=>by
  have h1:=(List.mem_filter.1 hx).1
  obtain⟨hn,he⟩:=List.getElem?_eq_some_iff.1 h
  obtain⟨i,hi,hie⟩:=List.getElem_of_mem h1
  rw[List.length_take] at hi
  rw[List.getElem_take] at hie
  have:=(List.getElem_inj (F6 a)).1 (hie.trans he.symm)
  omega
 rw[decide_eq_false hno] at hm
 unfold CI at hm
 cases hv:Cv (EW ((a.spots.take n).filter p) cl v) x with
 |none=>rfl
 |some w=>rw[hv] at hm;cases hm
theorem Fp {l:List Bv}{n:Nat}{x:Bv}(h:l[n]?=some x) (p:Bv->Bool):(l.take (n+1)).filter p=(l.take n).filter p++(if p x then [x] else []):=by
 rw[List.take_add_one,h,List.filter_append]
 cases hp:p x<;>simp[hp]
end Go.Pw
end

/- A part of the proof. -/
import Derived.Test.YtibkjeolahobbaaGreatDoorPgChrBv
import Derived.Test.YtibkjeolahobbaaGreatDoorPgChrBk
set_option linter.all false
section
open Go Go.Pw Go.Proofs
namespace Go.Pw
set_option linter.unusedSimpArgs false
set_option linter.unusedVariables false
set_option maxRecDepth 100000
set_option maxHeartbeats 3200000
def gO (c:AU) (rest:List Int) (part q:Nat):Nat→Int
 |0=>(part:Int)
 |s+1=>min (gO c rest part q s) (CX (rest.take part) ((c.stm s).drop q))
theorem cE (c:AU) (rest:List Int) (part q:Nat):∀m,0≤gO c rest part q m∧gO c rest part q m≤part
 |0=>⟨by simp [gO],Int.le_refl _⟩
 |m+1=>by
  have ih:=cE c rest part q m
  have:=L2 (rest.take part) ((c.stm m).drop q)
  simp only [gO];omega
def J9 (c:AX) (at_:Nat) (rest:List Int):Nat:=if at_ % c.tot < c.mark.length then min rest.length (c.mark.length - at_ % c.tot) else min rest.length (c.code.sz - (at_ % c.tot - c.mark.length) % c.code.sz)
def T7 (c:AX) (at_:Nat) (rest:List Int):Int:=if at_ % c.tot < c.mark.length then CX (rest.take (J9 c at_ rest)) (c.mark.drop (at_ % c.tot)) else gO c.code rest (J9 c at_ rest) ((at_ % c.tot - c.mark.length) % c.code.sz) 16
def apW (c:AX):Nat→Nat→List Int→Int
 |0,_,_=>0
 |n+1,at_,rest=>if rest=[] then 0 else T7 c at_ rest+apW c n (at_+J9 c at_ rest) (rest.drop (J9 c at_ rest))
def VO (c:AX) (at_:Nat):Int:=apW c (c.mark.length+1) at_ c.mark
theorem Pe {c:AX} (hk:GL c) (at_:Nat) {rest:List Int} (h:rest≠[]):1≤J9 c at_ rest∧J9 c at_ rest≤rest.length:=by
 have h1:0 < rest.length:=List.length_pos_iff.2 h
 have hz:=Gt hk.code
 have:=Nat.mod_lt (at_ % c.tot - c.mark.length) (show 0 < c.code.sz by omega)
 unfold J9
 split<;>omega
theorem fM (c:AX) (at_:Nat) (rest:List Int):0≤T7 c at_ rest∧T7 c at_ rest≤J9 c at_ rest:=by
 unfold T7
 split
 ·have:=L2 (rest.take (J9 c at_ rest)) (c.mark.drop (at_ % c.tot))
  have h2:(rest.take (J9 c at_ rest)).length≤J9 c at_ rest:=by rw [List.length_take];omega
  omega
 ·exact cE ..
theorem VN {c:AX} (hk:GL c):∀(n m at_:Nat) (rest:List Int),rest.length < n→rest.length < m→apW c n at_ rest=apW c m at_ rest
 |0,_,_,_,h,_=>by omega
 |_,0,_,_,_,h=>by omega
 |n+1,m+1,at_,rest,h1,h2=>by
  unfold apW
  by_cases hr:rest=[]
  ·rw [if_pos hr,if_pos hr]
  ·rw [if_neg hr,if_neg hr]
   have:=Pe hk at_ hr
   rw [VN hk n m _ _ (by rw [List.length_drop];omega) (by rw [List.length_drop];omega)]
theorem d6 {c:AX} (hk:GL c) {a j:Nat} (h:j < c.mark.length) (hj:c.mark.drop j≠[]) :
  apW c (c.mark.length+1) (a+j) (c.mark.drop j)=T7 c (a+j) (c.mark.drop j)+apW c (c.mark.length+1) (a+(j+J9 c (a+j) (c.mark.drop j))) (c.mark.drop (j+J9 c (a+j) (c.mark.drop j))):=by
 rw [show apW c (c.mark.length+1) (a+j) (c.mark.drop j)=T7 c (a+j) (c.mark.drop j)+apW c c.mark.length (a+j+J9 c (a+j) (c.mark.drop j)) ((c.mark.drop j).drop (J9 c (a+j) (c.mark.drop j))) from by
  conv=>lhs;unfold apW
  rw [if_neg hj]]
 have hp:=Pe hk (a+j) hj
 rw [List.drop_drop,Nat.add_assoc]
 congr 1
 exact VN hk _ _ _ _ (by rw [List.length_drop];omega) (by rw [List.length_drop];omega)
theorem SF (a b:Nat):((a:Int)).tmod (b:Int)=((a % b:Nat):Int):=by
 rw [Int.tmod_eq_emod_of_nonneg (by omega)];rfl
attribute [local congr] Bh A_ A' Ap Bi Av Ax Aw Ao Ah Ab AZ Ar Ac As BI BM BK BL BJ BN BF Af Au Ag BD BQ Ae BG BH BE BB BC A9 BA Aq Ad
attribute [local irreducible] IntKind.wrap A5 Option.getD and or
theorem NQ (c:AX) (hk:GL c) (a:Nat) (ha:a≤2000):CF E0 FF [.ptr (Q8 c (Fr c.code)),.int .i64 (a:Int)] (.int .i64 (VO c a)):=by
 have hm:=hk.markl
 have hs:=hk.syms
 have ht:=hk.tot
 have hz:=Gt hk.code
 have cB:=Fw c hk.wev hk.code
 have cL:=Fv c
 have w0:IntKind.i64.wrap ((c.mark.length:Int)+((c.syms * c.code.sz:Nat):Int))=((c.tot:Nat):Int):=by rw [AC _ (by omega)];unfold AX.tot;omega
 have ht1:c.mark.length < c.tot:=by
  have:2 * 2≤c.syms * c.code.sz:=Nat.mul_le_mul hs.1 hz.1
  unfold AX.tot;omega
 have hne0:¬((c.tot:Nat):Int)=0:=by omega
 have hnz0:¬((c.code.sz:Nat):Int)=0:=by omega
 refine AO HS Am (by simp) fun hwf=>?_
 rw [AW];unfold Eo
 (try (simp -implicitDefEqProofs only [go_sem,A3,w0]));repeat' first|(with_reducible first|exact True.intro|refine And.intro ?_ ?_|intro _)|(((with_reducible refine isCall ?_);first|refine AF (cB) rfl ?_ ?_|refine AE (cB) rfl ?_|refine AB (cB) rfl ?_ ?_|refine AG (cB) rfl rfl ?_)<;>try (simp -implicitDefEqProofs only [go_sem,A3,w0]))|(((with_reducible refine AS ?_ ?_)<;>intro _)<;>try (simp -implicitDefEqProofs only [go_sem,A3,w0]))|simp (disch:=omega) only [AC,AH,AP,AJ,AD,AQ,AI,AA]|((with_reducible refine CP ?_);refine⟨(_,_,_,_),rfl,?_,?_⟩)|((with_reducible refine An ?_);refine⟨(_,_),rfl,?_,?_⟩)
 all_goals first|omega|(simp;done)|(simp;omega)|skip
 have hd0:c.mark=c.mark.drop 0:=rfl
 refine AY (α:=Nat×Int×Int×(List Int)) (l0:=?l1) (m0:=?m1) (fun x=>[(1,.d (.int .i64 x.2.1)),(4,.d (.int .i64 x.2.2.1)),(6,.d (.list c.nm (Ai x.2.2.2)))]) (fun x=>[]) (fun x=>x.1≤c.mark.length∧x.2.1=((a+x.1:Nat):Int)∧x.2.2.2=c.mark.drop x.1∧0≤x.2.2.1∧x.2.2.1≤x.1∧x.2.2.1+apW c (c.mark.length+1) (a+x.1) (c.mark.drop x.1)=VO c a) (fun x=>c.mark.length - x.1) (0,(a:Int),0,c.mark) ?h01 ?he1 ?he21 ?hI1 ?step1
 case h01=>(simp -implicitDefEqProofs only [go_sem];rfl)
 case he1=>rfl
 case he21=>rfl
 case' step1=>(rintro⟨j,t,n,l⟩ hI;try dsimp only at hI)
 case' hI1=>try dsimp only
 ·exact⟨Nat.zero_le _,by simp,rfl,Int.le_refl _,by simp,by simp [VO]⟩
 ·obtain⟨j1,j2,j3,n0,n1,j4⟩:=hI
  change t=((a+j:Nat):Int) at j2
  change l=c.mark.drop j at j3
  subst j2
  have hll:l.length=c.mark.length - j:=by rw [j3,List.length_drop]
  by_cases hj:j < c.mark.length
  ·have hl0:(0:Int) < (l.length:Int):=by omega
   have hlne:l≠[]:=fun e=>by rw [e] at hll;simp at hll;omega
   have hst:=d6 hk (a:=a) hj (by rw [←j3];exact hlne)
   have hsp:=Pe hk (a+j) hlne
   have hsv:=fM c (a+j) l
   rw [←j3] at hst j4
   have hmod:=SF (a+j) c.tot
   have hpt:=Nat.mod_lt (a+j) (show 0 < c.tot by omega)
   have hlb:Ak l=true:=by rw [j3];exact EY hm.2.2 j
   obtain⟨S,hS⟩:∃S,J9 c (a+j) l=S:=⟨_,rfl⟩
   obtain⟨V,hV⟩:∃V,T7 c (a+j) l=V:=⟨_,rfl⟩
   have hS':=hS
   have hV':=hV
   unfold J9 at hS'
   unfold T7 at hV'
   rw [hS] at hst hsp hsv hV'
   rw [hV] at hst hsv
   have wn:IntKind.i64.wrap (n+V)=n+V:=AC _ (by omega)
   have wt:IntKind.i64.wrap (((a+j:Nat):Int)+(S:Int))=((a+(j+S):Nat):Int):=by rw [AC _ (by omega)];omega
   have hlS:(S:Int)≤(l.length:Int):=by omega
   have hdl:l.drop S=c.mark.drop (j+S):=by rw [j3,List.drop_drop]
   have htk:(c.mark.drop (j+S)).take (l.length - S)=c.mark.drop (j+S):=List.take_of_length_le (by rw [List.length_drop];omega)
   by_cases hp:(a+j) % c.tot < c.mark.length
   ·rw [if_pos hp] at hS' hV'
    have hp':(((a+j) % c.tot:Nat):Int) < (c.mark.length:Int):=by omega
    have hmn:min (l.length:Int) (IntKind.i64.wrap ((c.mark.length:Int) - (((a+j) % c.tot:Nat):Int)))=(S:Int):=by rw [AC _ (by omega)];omega
    have cD:=ES c.nm c.nm (l.take S) (c.mark.drop ((a+j) % c.tot)) (FV hlb S) (EY hm.2.2 _) (by rw [List.length_take,List.length_drop];omega) (by rw [List.length_take];omega)
    rw [hV'] at cD
    (try (simp -implicitDefEqProofs only [go_sem,A3,w0,hl0,hmod,hne0,hp',hmn,hlS,wn,wt,hdl,htk]));repeat' first|(with_reducible first|exact True.intro|refine And.intro ?_ ?_|intro _)|(((with_reducible refine isCall ?_);first|refine AF (cB) rfl ?_ ?_|refine AE (cB) rfl ?_|refine AB (cB) rfl ?_ ?_|refine AG (cB) rfl rfl ?_|refine AF (cD) rfl ?_ ?_|refine AE (cD) rfl ?_|refine AB (cD) rfl ?_ ?_|refine AG (cD) rfl rfl ?_)<;>try (simp -implicitDefEqProofs only [go_sem,A3,w0,hl0,hmod,hne0,hp',hmn,hlS,wn,wt,hdl,htk]))|(((with_reducible refine AS ?_ ?_)<;>intro _)<;>try (simp -implicitDefEqProofs only [go_sem,A3,w0,hl0,hmod,hne0,hp',hmn,hlS,wn,wt,hdl,htk]))|simp (disch:=omega) only [AC,AH,AP,AJ,AD,AQ,AI,AA]|((with_reducible refine CP ?_);refine⟨(_,_,_,_),rfl,?_,?_⟩)|((with_reducible refine An ?_);refine⟨(_,_),rfl,?_,?_⟩)
    all_goals first|omega|(simp;done)|(simp;omega)|skip
    exact⟨(j+S,_,_,_),rfl,⟨by show j+S≤_;omega,rfl,rfl,by show 0≤n+V;omega,by show n+V≤((j+S:Nat):Int);omega,by show n+V+apW c (c.mark.length+1) (a+(j+S)) (c.mark.drop (j+S))=VO c a;rw [←j4,hst];omega⟩,by show c.mark.length - (j+S) < _;omega⟩
   ·rw [if_neg hp] at hS' hV'
    have hp':¬(((a+j) % c.tot:Nat):Int) < (c.mark.length:Int):=by omega
    obtain⟨q,hq⟩:∃q,((a+j) % c.tot - c.mark.length) % c.code.sz=q:=⟨_,rfl⟩
    rw [hq] at hS' hV'
    have hql:q < c.code.sz:=by rw [←hq];exact Nat.mod_lt _ (by omega)
    have wq:IntKind.i64.wrap ((((a+j) % c.tot:Nat):Int) - (c.mark.length:Int))=(((a+j) % c.tot - c.mark.length:Nat):Int):=by rw [AC _ (by omega)];omega
    have hmq:=SF ((a+j) % c.tot - c.mark.length) c.code.sz
    rw [hq] at hmq
    have wz:IntKind.i64.wrap ((c.code.sz:Int) - (q:Int))=((c.code.sz - q:Nat):Int):=by rw [AC _ (by omega)];omega
    have hmn:min (l.length:Int) ((c.code.sz - q:Nat):Int)=(S:Int):=by omega
    have hmn0:∃z,min (l.length:Int) (IntKind.i64.wrap ((c.mark.length:Int) - (((a+j) % c.tot:Nat):Int)))=z:=⟨_,rfl⟩
    obtain⟨z,hz0⟩:=hmn0
    have h28:=PS c.code
    have h16:=RI c.code
    (try (simp -implicitDefEqProofs only [go_sem,A3,w0,hl0,hmod,hne0,hnz0,hp',hz0,wq,hmq,wz,hmn,h28,h16]));repeat' first|(with_reducible first|exact True.intro|refine And.intro ?_ ?_|intro _)|(((with_reducible refine isCall ?_);first|refine AF (cB) rfl ?_ ?_|refine AE (cB) rfl ?_|refine AB (cB) rfl ?_ ?_|refine AG (cB) rfl rfl ?_|refine AF (cL) rfl ?_ ?_|refine AE (cL) rfl ?_|refine AB (cL) rfl ?_ ?_|refine AG (cL) rfl rfl ?_)<;>try (simp -implicitDefEqProofs only [go_sem,A3,w0,hl0,hmod,hne0,hnz0,hp',hz0,wq,hmq,wz,hmn,h28,h16]))|(((with_reducible refine AS ?_ ?_)<;>intro _)<;>try (simp -implicitDefEqProofs only [go_sem,A3,w0,hl0,hmod,hne0,hnz0,hp',hz0,wq,hmq,wz,hmn,h28,h16]))|simp (disch:=omega) only [AC,AH,AP,AJ,AD,AQ,AI,AA]|((with_reducible refine CP ?_);refine⟨(_,_,_,_),rfl,?_,?_⟩)|((with_reducible refine An ?_);refine⟨(_,_),rfl,?_,?_⟩)
    all_goals first|omega|(simp;done)|(simp;omega)|skip
    refine AY (α:=Nat×Int) (l0:=?l2) (m0:=?m2) (fun x=>[(87,.d (.int .i64 (x.1:Int))),(9,.d (.int .i64 x.2))]) (fun x=>[]) (fun x=>x.1≤16∧x.2=gO c.code l S q x.1) (fun x=>16 - x.1) (0,(S:Int)) ?h02 ?he2 ?he22 ?hI2 ?step2
    case h02=>(simp -implicitDefEqProofs only [go_sem];rfl)
    case he2=>rfl
    case he22=>rfl
    case' step2=>(rintro⟨s,b⟩ hI2;try dsimp only at hI2)
    case' hI2=>try dsimp only
    ·exact⟨Nat.zero_le _,rfl⟩
    ·obtain⟨s1,s2⟩:=hI2
     change b=gO c.code l S q s at s2
     by_cases hs16:s < 16
     ·have hs':(s:Int) < 16:=by omega
      have hg:=PT c.code hs16
      have hsl:=K8 c.code s
      have hws:IntKind.i64.wrap ((s:Int)+1)=((s+1:Nat):Int):=by rw [AC _ (by omega)];omega
      have cD:=ES c.nm false (l.take S) ((c.code.stm s).drop q) (FV hlb S) (EY (Tj ..) _) (by rw [List.length_take,List.length_drop,hsl];omega) (by rw [List.length_take];omega)
      have hqs:(q:Int)≤((c.code.stm s).length:Int):=by omega
      obtain⟨dv,hdv⟩:∃dv,CX (l.take S) ((c.code.stm s).drop q)=dv:=⟨_,rfl⟩
      rw [hdv] at cD
      have hmm:min b dv=gO c.code l S q (s+1):=by rw [s2,←hdv];rfl
      have htk2:((c.code.stm s).drop q).take (c.code.sz - q)=(c.code.stm s).drop q:=List.take_of_length_le (by rw [List.length_drop];omega)
      (try (simp -implicitDefEqProofs only [go_sem,hs',hg,hsl,hws,hlS,hqs,hql,hmm,htk2]));repeat' first|(with_reducible first|exact True.intro|refine And.intro ?_ ?_|intro _)|(((with_reducible refine isCall ?_);first|refine AF (cD) rfl ?_ ?_|refine AE (cD) rfl ?_|refine AB (cD) rfl ?_ ?_|refine AG (cD) rfl rfl ?_)<;>try (simp -implicitDefEqProofs only [go_sem,hs',hg,hsl,hws,hlS,hqs,hql,hmm,htk2]))|(((with_reducible refine AS ?_ ?_)<;>intro _)<;>try (simp -implicitDefEqProofs only [go_sem,hs',hg,hsl,hws,hlS,hqs,hql,hmm,htk2]))|simp (disch:=omega) only [AC,AH,AP,AJ,AD,AQ,AI,AA]|((with_reducible refine CP ?_);refine⟨(_,_,_,_),rfl,?_,?_⟩)|((with_reducible refine An ?_);refine⟨(_,_),rfl,?_,?_⟩)
      all_goals first|omega|(simp;done)|(simp;omega)|skip
      all_goals skip
     ·have hs':¬(s:Int) < 16:=by omega
      have hse:s=16:=by omega
      rw [hse,hV'] at s2
      subst s2
      (try (simp -implicitDefEqProofs only [go_sem,hs',hlS,wn,wt,hdl,htk]));repeat' first|(with_reducible first|exact True.intro|refine And.intro ?_ ?_|intro _)|(((with_reducible refine AS ?_ ?_)<;>intro _)<;>try (simp -implicitDefEqProofs only [go_sem,hs',hlS,wn,wt,hdl,htk]))|simp (disch:=omega) only [AC,AH,AP,AJ,AD,AQ,AI,AA]|((with_reducible refine CP ?_);refine⟨(_,_,_,_),rfl,?_,?_⟩)|((with_reducible refine An ?_);refine⟨(_,_),rfl,?_,?_⟩)
      all_goals first|omega|(simp;done)|(simp;omega)|skip
      exact⟨(j+S,_,_,_),rfl,⟨by show j+S≤_;omega,rfl,rfl,by show 0≤n+b;omega,by show n+b≤((j+S:Nat):Int);omega,by show n+b+apW c (c.mark.length+1) (a+(j+S)) (c.mark.drop (j+S))=VO c a;rw [←j4,hst];omega⟩,by show c.mark.length - (j+S) < _;omega⟩
  ·have hl0:¬(0:Int) < (l.length:Int):=by omega
   have hln:l=[]:=List.length_eq_zero_iff.1 (by omega)
   have hap:apW c (c.mark.length+1) (a+j) (c.mark.drop j)=0:=by rw [←j3,hln];simp [apW]
   have:n=VO c a:=by rw [←j4,hap];omega
   subst this
   (try (simp -implicitDefEqProofs only [go_sem,hl0]));repeat' first|(with_reducible first|exact True.intro|refine And.intro ?_ ?_|intro _)|(((with_reducible refine AS ?_ ?_)<;>intro _)<;>try (simp -implicitDefEqProofs only [go_sem,hl0]))|simp (disch:=omega) only [AC,AH,AP,AJ,AD,AQ,AI,AA]|((with_reducible refine CP ?_);refine⟨(_,_,_,_),rfl,?_,?_⟩)|((with_reducible refine An ?_);refine⟨(_,_),rfl,?_,?_⟩)
   all_goals first|omega|(simp;done)|(simp;omega)|skip
   all_goals first|rfl|skip
end Go.Pw
end
section
open Go Go.Pw Go.Proofs
namespace Go.Pw
set_option linter.unusedSimpArgs false
set_option linter.unusedVariables false
set_option maxRecDepth 100000
set_option maxHeartbeats 3200000
def l8 (c:AX):Nat→Int
 |0=>(c.mark.length:Int)
 |n+1=>min (l8 c n) (VO c (n+1))
def d7 (c:AX):Int:=if c.ok=true then l8 c (c.tot - 1) else 0
def mt (c:AU) (a:Nat) (l:Int):Nat→Int
 |0=>l
 |b+1=>min (mt c a l b) (CX (c.stm a) (c.stm b))
def mr (c:AU):Nat→Int
 |0=>(c.sz:Int)
 |a+1=>mt c a (mr c a) a
def mu (c:AX):Int:=if c.ok=true then mr c.code 16 else 0
def me (c:AX):Int:=if c.Q * (c.P / 2)=0 then 0 else if c.Q * c.L≤c.Q * (c.P / 2) then ((c.syms * c.code.sz:Nat):Int) else (c.Q * (c.P / 2) - 1) * c.code.sz+1
def nF (c:AX):Int:=if c.ok=true then me c else 0
attribute [local congr] Bh A_ A' Ap Bi Av Ax Aw Ao Ah Ab AZ Ar Ac As BI BM BK BL BJ BN BF Af Au Ag BD BQ Ae BG BH BE BB BC A9 BA Aq Ad
attribute [local irreducible] IntKind.wrap A5 Option.getD and or
theorem NR (c:AX):CF E0 Jr [FT c] (.tup [.int .i64 (d7 c),.int .i64 (P7 c)]):=by
 have c1:=Fu c
 obtain⟨r,hr⟩:∃r,fw c=r:=⟨_,rfl⟩
 rw [hr] at c1
 refine AO NG Am (by simp) fun hwf=>?_
 rw [AW];unfold IU d7
 rcases hok:c.ok with _|_
 ·have:=I5 hok
  rw [hr] at this
  rw [this.1,this.2] at c1
  rw [this.2]
  (try (simp -implicitDefEqProofs only [go_sem,AL,AK]));repeat' first|(with_reducible first|exact True.intro|refine And.intro ?_ ?_|intro _)|(((with_reducible refine isCall ?_);first|refine AF (c1) rfl ?_ ?_|refine AE (c1) rfl ?_|refine AB (c1) rfl ?_ ?_|refine AG (c1) rfl rfl ?_)<;>try (simp -implicitDefEqProofs only [go_sem,AL,AK]))|(((with_reducible refine AS ?_ ?_)<;>intro _)<;>try (simp -implicitDefEqProofs only [go_sem,AL,AK]))|simp (disch:=omega) only [AC,AH,AP,AJ,AD,AQ,AI,AA]|((with_reducible refine BW ?_);refine⟨(_,_,_),rfl,?_,?_⟩)
  all_goals first|rfl|skip
 ·have:=KO hok
  have hk:=FU hok
  rw [hr] at this
  rw [this.1,this.2] at c1
  rw [this.2]
  have hm:=hk.markl
  have ht:=hk.tot
  have cB:=Fw c hk.wev hk.code
  have w0:IntKind.i64.wrap ((c.mark.length:Int)+((c.syms * c.code.sz:Nat):Int))=((c.tot:Nat):Int):=by rw [AC _ (by omega)];unfold AX.tot;omega
  have ht1:1≤c.tot:=by unfold AX.tot;omega
  simp only [if_true]
  (try (simp -implicitDefEqProofs only [go_sem,AL,AK,A3]));repeat' first|(with_reducible first|exact True.intro|refine And.intro ?_ ?_|intro _)|(((with_reducible refine isCall ?_);first|refine AF (c1) rfl ?_ ?_|refine AE (c1) rfl ?_|refine AB (c1) rfl ?_ ?_|refine AG (c1) rfl rfl ?_)<;>try (simp -implicitDefEqProofs only [go_sem,AL,AK,A3]))|(((with_reducible refine AS ?_ ?_)<;>intro _)<;>try (simp -implicitDefEqProofs only [go_sem,AL,AK,A3]))|simp (disch:=omega) only [AC,AH,AP,AJ,AD,AQ,AI,AA]|((with_reducible refine BW ?_);refine⟨(_,_,_),rfl,?_,?_⟩)
  all_goals first|omega|(simp;done)|(simp;omega)|skip
  refine AY (α:=Nat×Int×Int) (l0:=?l1) (m0:=?m1) (fun x=>[(7,.d (.int .i64 x.2.1)),(6,.d (.int .i64 x.2.2))]) (fun x=>[]) (fun x=>x.1≤c.tot - 1∧x.2.1=((x.1+1:Nat):Int)∧x.2.2=l8 c x.1) (fun x=>c.tot - 1 - x.1) (0,1,(c.mark.length:Int)) ?h01 ?he1 ?he21 ?hI1 ?step1
  case h01=>(simp -implicitDefEqProofs only [go_sem];rfl)
  case he1=>rfl
  case he21=>rfl
  case' step1=>(rintro⟨k,t,n⟩ hI;try dsimp only at hI)
  case' hI1=>try dsimp only
  ·exact⟨Nat.zero_le _,rfl,rfl⟩
  ·obtain⟨k1,k2,k3⟩:=hI
   change t=((k+1:Nat):Int) at k2
   change n=l8 c k at k3
   subst k2
   by_cases hkt:k+1 < c.tot
   ·have hk':((k+1:Nat):Int) < ((c.tot:Nat):Int):=by omega
    have cA:=NQ c hk (k+1) (by omega)
    have hwk:IntKind.i64.wrap (((k+1:Nat):Int)+1)=((k+1+1:Nat):Int):=by rw [AC _ (by omega)];omega
    have hmm:min n (VO c (k+1))=l8 c (k+1):=by rw [k3];rfl
    (try (simp -implicitDefEqProofs only [go_sem,A3,w0,hk',hwk,hmm]));repeat' first|(with_reducible first|exact True.intro|refine And.intro ?_ ?_|intro _)|(((with_reducible refine isCall ?_);first|refine AF (cB) rfl ?_ ?_|refine AE (cB) rfl ?_|refine AB (cB) rfl ?_ ?_|refine AG (cB) rfl rfl ?_|refine AF (cA) rfl ?_ ?_|refine AE (cA) rfl ?_|refine AB (cA) rfl ?_ ?_|refine AG (cA) rfl rfl ?_)<;>try (simp -implicitDefEqProofs only [go_sem,A3,w0,hk',hwk,hmm]))|(((with_reducible refine AS ?_ ?_)<;>intro _)<;>try (simp -implicitDefEqProofs only [go_sem,A3,w0,hk',hwk,hmm]))|simp (disch:=omega) only [AC,AH,AP,AJ,AD,AQ,AI,AA]|((with_reducible refine BW ?_);refine⟨(_,_,_),rfl,?_,?_⟩)
    all_goals first|omega|(simp;done)|(simp;omega)|skip
    exact⟨(k+1,_,_),rfl,⟨by show k+1≤c.tot - 1;omega,rfl,rfl⟩,by show c.tot - 1 - (k+1) < c.tot - 1 - k;omega⟩
   ·have hk':¬((k+1:Nat):Int) < ((c.tot:Nat):Int):=by omega
    have hke:k=c.tot - 1:=by omega
    subst hke
    rw [k3]
    (try (simp -implicitDefEqProofs only [go_sem,A3,w0,hk']));repeat' first|(with_reducible first|exact True.intro|refine And.intro ?_ ?_|intro _)|(((with_reducible refine isCall ?_);first|refine AF (cB) rfl ?_ ?_|refine AE (cB) rfl ?_|refine AB (cB) rfl ?_ ?_|refine AG (cB) rfl rfl ?_)<;>try (simp -implicitDefEqProofs only [go_sem,A3,w0,hk']))|(((with_reducible refine AS ?_ ?_)<;>intro _)<;>try (simp -implicitDefEqProofs only [go_sem,A3,w0,hk']))|simp (disch:=omega) only [AC,AH,AP,AJ,AD,AQ,AI,AA]|((with_reducible refine BW ?_);refine⟨(_,_,_),rfl,?_,?_⟩)
    all_goals first|omega|(simp;done)|(simp;omega)|skip
    all_goals first|rfl|skip
end Go.Pw
end
section
open Go Go.Pw
namespace Go.Pw
set_option linter.unusedVariables false
def DY (f:Nat→Nat) (q:Nat):Nat→Nat→Nat
 |0,_=>0
 |i+1,k=>DY f q i k+if i % q=k then f i else 0
def Oi (f:Nat→Nat) (q:Nat):Nat→Nat→Nat
 |0,_=>0
 |m+1,k=>Oi f q m k+f (m * q+k)
theorem U' (f:Nat→Nat) {q k:Nat} (hk:k < q) (m:Nat):∀t,t≤q→DY f q (m * q+t) k=DY f q (m * q) k+if k < t then f (m * q+k) else 0
 |0,_=>by simp
 |t+1,h=>by
  have ih:=U' f hk m t (by omega)
  show DY f q (m * q+t) k+(if (m * q+t) % q=k then f (m * q+t) else 0)=_
  rw [ih,P' (show t < q by omega)]
  by_cases h1:t=k
  ·subst h1
   rw [if_pos rfl,if_neg (by omega),if_pos (by omega)];omega
  ·rw [if_neg h1]
   by_cases h2:k < t
   ·rw [if_pos h2,if_pos (by omega)];rfl
   ·rw [if_neg h2,if_neg (by omega)]
theorem PG (f:Nat→Nat) {q k:Nat} (hk:k < q):∀m,DY f q (m * q) k=Oi f q m k
 |0=>by rw [Nat.zero_mul];rfl
 |m+1=>by
  rw [Nat.add_mul,Nat.one_mul,U' f hk m q (Nat.le_refl q),if_pos hk,PG f hk m];rfl
theorem fU {f g h:Nat→Nat} {q m k:Nat} (hk:k < q) (e:∀i,i < m * q→f i=2 * g i+h i):Oi f q m k=2 * Oi g q m k+Oi h q m k:=by
 induction m with
 |zero=>rfl
 |succ m ih =>
  have h1:=ih fun i hi=>e i (by rw [Nat.add_mul];omega)
  have h2:=e (m * q+k) (QA hk (by omega))
  show Oi f q m k+f (m * q+k)=2 * (Oi g q m k+g (m * q+k))+(Oi h q m k+h (m * q+k))
  omega
theorem Sj (mB:Nat→Bool) {q:Nat} (k:Nat):∀i,(OU q k ((List.range i).filter mB)).length=DY (fun i=>if mB i then 1 else 0) q i k
 |0=>rfl
 |i+1=>by
  have ih:=Sj mB (q:=q) k i
  rw [List.range_succ,List.filter_append]
  show _=DY _ q i k+if i % q=k then (if mB i then 1 else 0) else 0
  rw [←ih]
  cases hm:mB i with
  |false=>simp [hm]
  |true =>
   simp only [List.filter_cons,hm,if_true,List.filter_nil]
   rw [UX]
   by_cases h:i % q=k
   ·rw [if_pos h,if_pos h];simp
   ·rw [if_neg h,if_neg h];rfl
theorem Xz {l q k:Nat} (hk:k < q) {a R:List F} {W:Nat→List F} {mB wB:Nat→Bool} (hw:∀j,j < l→(W k)[j]?.getD 0≠R[j * q+k]?.getD 0→mB (j * q+k)=false→wB (j * q+k)=true) :
  (L3 l (W k) (CH l q k R) (OU q k ((List.range (l * q)).filter mB))).length≤Oi (fun i=>if wB i then 1 else 0) q l k:=by
 have hmk:∀j,j < l→(j∈OU q k ((List.range (l * q)).filter mB)↔mB (j * q+k)=true):=fun j hj=>by
  rw [gF hk,List.mem_filter,List.mem_range]
  exact⟨fun h=>h.2,fun h=>⟨QA hk hj,h⟩⟩
 have hg:∀j,j < l→(CH l q k R)[j]?.getD 0=R[j * q+k]?.getD 0:=fun j hj=>Nt j hj
 generalize OU q k ((List.range (l * q)).filter mB)=mk at *
 generalize CH l q k R=b at *
 unfold L3
 have:∀m,m≤l→((List.range m).filter fun j=>decide ((W k)[j]?.getD 0≠b[j]?.getD 0) && !mk.contains j).length≤Oi (fun i=>if wB i then 1 else 0) q m k:=by
  intro m
  induction m with
  |zero=>intro _;exact Nat.le_refl 0
  |succ m ih =>
   intro hm
   have i1:=ih (by omega)
   rw [List.range_succ,List.filter_append,List.length_append]
   show _≤Oi (fun i=>if wB i then 1 else 0) q m k+(if wB (m * q+k) then 1 else 0)
   refine Nat.add_le_add i1 ?_
   by_cases hc:(decide ((W k)[m]?.getD 0≠b[m]?.getD 0) && !mk.contains m)=true
   ·have hc2:=hc
    simp only [Bool.and_eq_true,decide_eq_true_eq,Bool.not_eq_true',List.contains_eq_mem,decide_eq_false_iff_not] at hc2
    have h3:mB (m * q+k)=false:=by
     cases h:mB (m * q+k) with
     |false=>rfl
     |true=>exact absurd ((hmk m (by omega)).2 h) hc2.2
    have h4:=hw m (by omega) (by rw [←hg m (by omega)];exact hc2.1) h3
    rw [h4]
    simp only [List.filter_cons,hc,if_true,List.filter_nil]
    exact Nat.le_refl 1
   ·simp only [List.filter_cons,hc,List.filter_nil]
    exact Nat.zero_le _
 exact this l (Nat.le_refl l)
theorem Pv (mB:Nat→Bool) (n:Nat):XJ n ((List.range n).filter mB) :=
 ⟨List.Pairwise.filter _ List.pairwise_lt_range,fun j hj=>by simpa using (List.mem_filter.1 hj).1⟩
theorem Qx {l p q:Nat} (hl:l≤15) (hpl:p < l) (hq:0 < q) {d R:List F} (hd:d.length=(l - p) * q) (hR:R.length=l * q) {mB wB:Nat→Bool}
  (hw:∀i,i < l * q→(RM l p q d)[i]?.getD 0≠R[i]?.getD 0→mB i=false→wB i=true) {fC:Nat→Nat} (hf:∀i,i < l * q→fC i=if mB i then 1 else if wB i then 2 else 0)
  (hk:∀k,k < q→DY fC q (l * q) k≤p):We l p q R ((List.range (l * q)).filter mB)=some d:=by
 refine Qr hl hpl hq hd hR (Pv mB _) fun k hkq=>?_
 have h1:=hk k hkq
 rw [PG fC hkq] at h1
 rw [fU (g:=fun i=>if wB i && !mB i then 1 else 0) (h:=fun i=>if mB i then 1 else 0) hkq fun i hi=>by
  rw [hf i hi]
  cases mB i<;>cases wB i<;>rfl] at h1
 rw [Sj mB k,PG _ hkq]
 have h2:=Xz (a:=[]) (wB:=fun i=>wB i && !mB i) (mB:=mB) (R:=R) (W:=fun k=>GD p (CH (l - p) q k d)) (l:=l) hkq fun j hj hne hm=>by
  have hlt:=QA hkq hj
  have h3:(RM l p q d)[j * q+k]?.getD 0=(GD p (CH (l - p) q k d))[j]?.getD 0:=by
   unfold RM
   rw [NS _ hlt,S4 hkq,P' hkq]
  rw [hw (j * q+k) hlt (by rw [h3];exact hne) hm,hm];rfl
 omega
end Go.Pw
end
section
open Go Go.Pw
namespace Go.Pw
set_option linter.unusedSimpArgs false
set_option linter.unusedVariables false
theorem U7:∀(xs ys:List Int),CX xs (xs++ys)=0
 |[],_=>by simp [CX]
 |x :: xs,ys=>by rw [List.cons_append,CX,if_pos rfl,U7 xs ys];rfl
theorem j9 (mk:List Nat):nt (ni mk)=mk:=by
 unfold nt ni
 rw [List.map_map]
 exact List.map_id'' (fun x=>by simp) mk
theorem Xh (l:List Nat) (i:Nat) (h:i < l.length):(ni l)[i]?.getD 0=((l[i]?.getD 0:Nat):Int):=by simp [ni,h]
theorem UW {m:Nat} {mk:List Nat} (h:XJ m mk):D9 (ni mk) (m:Int)=true:=Ri fun i hi=>by
 have hil:i < mk.length:=by simpa [ni] using hi
 unfold gI
 rw [decide_eq_true_eq,Xh _ _ hil,Xh _ _ (show i - 1 < mk.length by omega)]
 have h1:=h.lt (mk[i]?.getD 0) (by rw [List.getElem?_eq_getElem hil];exact List.getElem_mem hil)
 refine⟨by omega,by exact_mod_cast h1,fun h0=>?_⟩
 have h2:=(List.pairwise_iff_getElem.1 h.asc) (i - 1) i (by omega) hil (by omega)
 rw [List.getElem?_eq_getElem hil,List.getElem?_eq_getElem (show i - 1 < mk.length by omega)]
 exact_mod_cast h2
theorem XV {c:AX} (hk:GL c) {d:List Int} (he:spE c.L c.P c.Q d=0) :
  ∃(l p q:Nat) (e:List F),c.L=(l:Int)∧c.P=(p:Int)∧c.Q=(q:Int)∧2≤l∧l≤15∧1≤p∧p≤8∧p < l∧1≤q∧q≤8∧d=iv e∧e.length=(l - p) * q∧TN c.L c.P c.Q d=iv (RM l p q e)∧c.syms=l * q:=by
 obtain⟨l,p,q,h1,h2,h3,b1,b2,b3,b4,b5,b6,b7,hc⟩:=Ix hk.wev
 have hw:=hk.wev
 unfold spE at he
 rw [if_pos hw] at he
 have hs:CG d (c.Q * (c.L - c.P))=true:=by
  cases hs:CG d (c.Q * (c.L - c.P)) with
  |true=>rfl
  |false=>rw [hs] at he;simp at he
 obtain⟨hl,hf⟩:=PR hs
 refine⟨l,p,q,fs d,h1,h2,h3,b1,b2,b3,b4,b5,b6,b7,hf.symm,?_,?_,?_⟩
 ·rw [So]
  rw [h1,h2,h3,show ((l:Int) - (p:Int))=((l - p:Nat):Int) by omega] at hl
  exact Sk hl
 ·unfold TN
  rw [if_pos hw,if_pos hs,h1,h2,h3];rfl
 ·have:=hk.syms.2.2
  rw [h1,h3] at this
  have e:(q:Int) * (l:Int)=((l * q:Nat):Int):=by push_cast;exact Int.mul_comm ..
  rw [e] at this;omega
theorem kL (w:List F):∀x,x∈iv w→0≤x∧x≤15:=fun x hx=>by
 simp only [iv,List.mem_map] at hx
 obtain⟨a,_,rfl⟩:=hx
 exact SD a
theorem cg {c:AX} (hk:GL c) {l p q:Nat} (h1:c.L=(l:Int)) (h2:c.P=(p:Int)) (h3:c.Q=(q:Int)) (hs:c.syms=l * q) {sy:List (Option Nat)} (hl:sy.length=c.syms) :
  Ql c sy=oE (We l p q (fs (Ck c.seed (MR sy))) (Y6 sy))∧Ug c sy=iv (oL (We l p q (fs (Ck c.seed (MR sy))) (Y6 sy))):=by
 have hw:=hk.wev
 have hxl:(Ck c.seed (MR sy)).length=c.syms:=by rw [Db,E2,hl]
 have hsy:CG (Ck c.seed (MR sy)) (c.Q * c.L)=true:=by
  have:iv (fs (Ck c.seed (MR sy)))=Ck c.seed (MR sy):=Xq (by
   rw [List.all_eq_true]
   intro x hx
   have:=H9 _ _ x hx
   unfold J4;rw [decide_eq_true_eq];omega)
  rw [←this,af,decide_eq_true_eq,So,hxl]
  exact hk.syms.2.2.symm
 have hm:D9 (ni (Y6 sy)) ((Ck c.seed (MR sy)).length:Int)=true:=by
  rw [hxl]
  refine UW ⟨List.Pairwise.filter _ List.pairwise_lt_range,fun j hj=>?_⟩
  have:=(List.mem_filter.1 hj).1
  rw [List.mem_range] at this
  omega
 unfold Ql Ug lc k8
 rw [if_pos hw,if_pos hsy,if_pos hm,if_pos hw,if_pos hsy,if_pos hm,j9,h1,h2,h3,Int.toNat_natCast,Int.toNat_natCast,Int.toNat_natCast]
 exact⟨rfl,rfl⟩
theorem Vl {c:AX} {R:List Int} {i:Nat} (h:i < c.syms):(c.syL R 0)[i]?.getD none=SH c.code (c.part R 0 i):=by
 simp [AX.syL,h]
theorem bG {c:AX} {sy:List (Option Nat)} {B:List F} {i:Nat} (hi:i < sy.length) (hB:i < B.length) {s:Nat} (hs:sy[i]?.getD none=some s) (hx:(s:Int)=(Ck c.seed (iv B))[i]?.getD 0) :
  (fs (Ck c.seed (MR sy)))[i]?.getD 0=B[i]?.getD 0:=by
 have h1:=Pg (MR sy) c.seed i (by rw [E2];exact hi)
 have h2:=Pg (iv B) c.seed i (by rw [I8];exact hB)
 have h3:(MR sy)[i]?.getD 0=(s:Int):=by
  simp only [MR,List.getElem?_map]
  rw [List.getElem?_eq_getElem hi] at hs ⊢
  simp only [Option.getD_some,Option.map_some] at hs ⊢
  rw [hs];rfl
 have h4:0≤(iv B)[i]?.getD 0∧(iv B)[i]?.getD 0≤15:=kL B _ (Df (by rw [I8];exact hB))
 rw [h3,hx,h2,fO _ h4,cQ] at h1
 have h5:(fs (Ck c.seed (MR sy)))[i]?.getD 0=Fin.ofNat 16 ((Ck c.seed (MR sy))[i]?.getD 0).toNat:=by
  simp only [fs,List.getElem?_map]
  rw [List.getElem?_eq_getElem (by rw [Db,E2];exact hi)];rfl
 rw [h5,h1,Int.toNat_natCast]
 exact Fin.ext (Nat.mod_eq_of_lt (B[i]?.getD 0).isLt)
theorem QN {f g:Nat→Nat} {q:Nat}:∀{n:Nat},(∀i,i < n→f i≤g i)→∀k,DY f q n k≤DY g q n k
 |0,_,_=>Nat.le_refl _
 |n+1,h,k=>by
  have ih:=QN (f:=f) (g:=g) (q:=q) (n:=n) (fun i hi=>h i (by omega)) k
  have h1:=h n (by omega)
  show DY f q n k+(if n % q=k then f n else 0)≤DY g q n k+(if n % q=k then g n else 0)
  split<;>omega
theorem UG {c:AX} (hk:GL c) {l p q:Nat} {e:List F} (h1:c.L=(l:Int)) (h2:c.P=(p:Int)) (h3:c.Q=(q:Int)) (b2:l≤15) (b5:p < l) (b6:1≤q) (he:e.length=(l - p) * q) (hs:c.syms=l * q)
  {sy:List (Option Nat)} (hl:sy.length=c.syms) {f:Nat→Nat}
  (hf:∀i,i < l * q→sy[i]?.getD none≠some ((Ck c.seed (iv (RM l p q e)))[i]?.getD 0).toNat→(if (sy[i]?.getD none).isNone then 1 else 2)≤f i)
  (hc:∀k,k < q→DY f q (l * q) k≤p):Ql c sy=0∧Ug c sy=iv e:=by
 obtain⟨g1,g2⟩:=cg hk h1 h2 h3 hs hl
 have hBl:(RM l p q e).length=l * q:=SL ..
 have hrl:(fs (Ck c.seed (MR sy))).length=l * q:=by rw [So,Db,E2,hl,hs]
 have key:=Qx (l:=l) (p:=p) (q:=q) b2 b5 (by omega) he hrl (mB:=fun i=>(sy[i]?.getD none).isNone) (wB:=fun i=>decide (sy[i]?.getD none≠some ((Ck c.seed (iv (RM l p q e)))[i]?.getD 0).toNat))
  (fun i hi hne hm=>by
   rw [decide_eq_true_eq]
   intro hs2
   have hx:0≤(Ck c.seed (iv (RM l p q e)))[i]?.getD 0:=(H9 _ _ _ (Df (by rw [Db,I8,hBl];exact hi))).1
   exact hne (bG (by omega) (by omega) hs2 (by omega)).symm)
  (fC:=fun i=>if (sy[i]?.getD none).isNone then 1 else if decide (sy[i]?.getD none≠some ((Ck c.seed (iv (RM l p q e)))[i]?.getD 0).toNat) then 2 else 0) (fun i hi=>rfl)
  (fun k hkq=>Nat.le_trans (QN (fun i hi=>by
   by_cases hw:sy[i]?.getD none=some ((Ck c.seed (iv (RM l p q e)))[i]?.getD 0).toNat
   ·rw [hw];simp
   ·have:=hf i hi hw
    by_cases hn:(sy[i]?.getD none).isNone=true
    ·rw [if_pos hn] at this ⊢;exact this
    ·rw [if_neg hn] at this ⊢
     rw [if_pos (by rw [decide_eq_true_eq];exact hw)];exact this) k) (hc k hkq))
 have hmk:Y6 sy=(List.range (l * q)).filter fun i=>(sy[i]?.getD none).isNone:=by unfold Y6;rw [hl,hs]
 rw [g1,g2,hmk,key]
 exact⟨rfl,rfl⟩
theorem bB {c:AX} (hk:GL c) {b:List Int} (hb:b.length=c.syms) (rest:List Int) {i:Nat} (hi:i < c.syms):(c.syL (I3 c b++rest) 0)[i]?.getD none=some ((Ck c.seed b)[i]?.getD 0).toNat:=by
 rw [Vl hi]
 have hl:(Ck c.seed b).length=c.syms:=by rw [Db,hb]
 unfold I3
 rw [bC c _ rest i (by omega)]
 have hx:=H9 b c.seed _ (Df (show i < (Ck c.seed b).length by omega))
 exact Ti hk.dst (by omega)
theorem dL {c:AX} (hk:GL c) {b:List Int} (hb:b.length=c.syms) (rest:List Int):c.find (I3 c b++rest)=some 0:=by
 refine Nx.2 ⟨?_,?_,fun j hj=>by omega⟩
 ·rw [List.length_append,XY,hb];unfold AX.tot;omega
 ·rw [List.drop_zero]
  unfold I3
  rw [List.append_assoc,U7];exact hk.errs.1
theorem bT {c:AX} (hk:GL c) {d:List Int} (he:spE c.L c.P c.Q d=0) (rest:List Int) :
  c.find (I3 c (TN c.L c.P c.Q d)++rest)=some 0∧Ql c (c.syL (I3 c (TN c.L c.P c.Q d)++rest) 0)=0∧Ug c (c.syL (I3 c (TN c.L c.P c.Q d)++rest) 0)=d:=by
 have hbl:=O8 hk.wev he
 obtain⟨l,p,q,e,h1,h2,h3,b1,b2,b3,b4,b5,b6,b7,rfl,hel,hsp,hs⟩:=XV hk he
 refine⟨dL hk hbl rest,?_⟩
 refine UG hk h1 h2 h3 b2 b5 b6 hel hs (K7 ..) (f:=fun _=>0) (fun i hi hne=>?_) fun k _=>?_
 ·rw [bB hk hbl rest (by omega),hsp] at hne
  exact absurd rfl hne
 ·have:∀n,DY (fun _=>0) q n k=0:=fun n=>by
   induction n with
   |zero=>rfl
   |succ n ih=>show DY _ q n k+(if n % q=k then 0 else 0)=0;rw [ih];split<;>rfl
  rw [this];omega
end Go.Pw
end
section
open Go Go.Pw Go.Proofs
namespace Go.Pw
set_option linter.unusedSimpArgs false
set_option linter.unusedVariables false
set_option maxRecDepth 100000
set_option maxHeartbeats 3200000
def nA (m q:Nat) (W:Nat→List F) (k j:Nat):List F:=(List.range (m * q)).map fun i=>if i % q < k∨(i % q=k∧i / q < j) then (W (i % q))[i / q]?.getD 0 else 0
attribute [local congr] Bh A_ A' Ap Bi Av Ax Aw Ao Ah Ab AZ Ar Ac As BI BM BK BL BJ BN BF Af Au Ag BD BQ Ae BG BH BE BB BC A9 BA Aq Ad
attribute [local irreducible] IntKind.wrap A5 Option.getD and or
theorem KD (L P Q:Int):CF E0 HH [.agg [.int .i64 L,.int .i64 P,.int .i64 Q]] (.int .i64 (if Ct L P Q=true then 0 else 50)):=by
 have c1:=Oj L P
 have c2:=Fs Q 1 8
 refine AO Kf Am (by simp) fun hwf=>?_
 rw [AW];unfold GU Ct
 cases hc:DP L P with
 |false =>
  rw [hc] at c1
  simp only [Bool.false_eq_true,if_false,Bool.false_and] at c1 ⊢
  (try (simp -implicitDefEqProofs only [go_sem]));repeat' first|(with_reducible first|exact True.intro|refine And.intro ?_ ?_|intro _)|(((with_reducible refine isCall ?_);first|refine AF (c1) rfl ?_ ?_|refine AE (c1) rfl ?_|refine AB (c1) rfl ?_ ?_|refine AG (c1) rfl rfl ?_)<;>try (simp -implicitDefEqProofs only [go_sem]))|(((with_reducible refine AS ?_ ?_)<;>intro _)<;>try (simp -implicitDefEqProofs only [go_sem]))|simp (disch:=omega) only [AC,AH,AP,AJ,AD,AQ,AI,AA]
  all_goals first|rfl|(simp;done)|skip
 |true =>
  rw [hc] at c1
  simp only [if_true,Bool.true_and] at c1 ⊢
  by_cases h:1≤Q∧Q≤8
  ·rw [decide_eq_true h] at c2 ⊢
   (try (simp -implicitDefEqProofs only [go_sem]));repeat' first|(with_reducible first|exact True.intro|refine And.intro ?_ ?_|intro _)|(((with_reducible refine isCall ?_);first|refine AF (c1) rfl ?_ ?_|refine AE (c1) rfl ?_|refine AB (c1) rfl ?_ ?_|refine AG (c1) rfl rfl ?_|refine AF (c2) rfl ?_ ?_|refine AE (c2) rfl ?_|refine AB (c2) rfl ?_ ?_|refine AG (c2) rfl rfl ?_)<;>try (simp -implicitDefEqProofs only [go_sem]))|(((with_reducible refine AS ?_ ?_)<;>intro _)<;>try (simp -implicitDefEqProofs only [go_sem]))|simp (disch:=omega) only [AC,AH,AP,AJ,AD,AQ,AI,AA]
   all_goals first|rfl|(simp;done)|skip
  ·rw [decide_eq_false h] at c2 ⊢
   (try (simp -implicitDefEqProofs only [go_sem]));repeat' first|(with_reducible first|exact True.intro|refine And.intro ?_ ?_|intro _)|(((with_reducible refine isCall ?_);first|refine AF (c1) rfl ?_ ?_|refine AE (c1) rfl ?_|refine AB (c1) rfl ?_ ?_|refine AG (c1) rfl rfl ?_|refine AF (c2) rfl ?_ ?_|refine AE (c2) rfl ?_|refine AB (c2) rfl ?_ ?_|refine AG (c2) rfl rfl ?_)<;>try (simp -implicitDefEqProofs only [go_sem]))|(((with_reducible refine AS ?_ ?_)<;>intro _)<;>try (simp -implicitDefEqProofs only [go_sem]))|simp (disch:=omega) only [AC,AH,AP,AJ,AD,AQ,AI,AA]
   all_goals first|rfl|(simp;done)|skip
end Go.Pw
end

/- A part of the proof. -/
import Derived.Test.YtibkjeolahobbaaGreatDoorPgChrBk
import Derived.Test.YtibkjeolahobbaaGreatDoorPgChcJ
import Derived.Test.YtibkjeolahobbaaGreatDoorPgChcD
set_option linter.all false
section
open Go Go.Pw Go.Proofs
namespace Go.Pw
set_option linter.unusedSimpArgs false
set_option linter.unusedVariables false
set_option maxRecDepth 100000
set_option maxHeartbeats 800000
attribute [local congr] Bh A_ A' Ap Bi Av Ax Aw Ao Ah Ab AZ Ar Ac As BI BM BK BL BJ BN BF Af Au Ag BD BQ Ae BG BH BE BB BC A9 BA Aq Ad
attribute [local irreducible] IntKind.wrap A5 Option.getD and or
def AU.apFirst (c:AU) (mark:List Int) (s:Int):Nat→Int→Int→GR→Int×GR
 |0,_,least,m=>(least,m)
 |k+1,f,least,m=>c.apFirst mark s k (f+1) (min least (c.apM 16 s f mark m).1) (c.apM 16 s f mark m).2
def AU.apStates (c:AU) (mark:List Int):Nat→Int→Int→GR→Int×GR
 |0,_,least,m=>(least,m)
 |k+1,s,least,m=>c.apStates mark k (s+1) (c.apFirst mark s c.out.toNat 0 least m).1 (c.apFirst mark s c.out.toNat 0 least m).2
def AU.apart (c:AU) (mark:List Int):Int:=(c.apStates mark c.words.length 0 16 []).1
def AU.apartR (c:AU) (mark:List Int):Int×Int:=if !c.ok then (0,40) else if !CZ mark then (0,1) else (c.apart mark,0)
theorem Lw (n1 n2:Bool) (xs ys:List Int) (at_:Int) (h0:0≤at_) (hl:at_+xs.length≤ys.length) (h128:xs.length≤1000000) (h129:ys.length≤1000000) :
  CF E0 Im [.list n1 (Ai xs),.list n2 (Ai ys),.int .i64 at_] (.int .i64 (CX xs (ys.drop at_.toNat))):=by
 refine AO L4 Am (by simp) fun hwf=>?_
 rw [AW];unfold HY
 simp -implicitDefEqProofs only [go_sem]
 obtain⟨Y,hY⟩:∃Y,ys.drop at_.toNat=Y:=⟨_,rfl⟩
 have hYl:Y.length=ys.length - at_.toNat:=by rw [←hY];simp
 rw [hY]
 refine AY (α:=Int×Int) (l0:=?l1) (m0:=?m1) (fun x=>[(8,.d (.int .i64 x.1)),(7,.d (.int .i64 x.2))]) (fun x=>[]) (fun x=>0≤x.1∧x.1≤xs.length∧0≤x.2∧x.2≤x.1∧x.2+CX (xs.drop x.1.toNat) (Y.drop x.1.toNat)=CX xs Y) (fun x=>(xs.length - x.1).toNat) (?a1_0,?a1_1) ?h01 ?he1 ?he21 ?hI1 ?step1
 case h01=>(simp -implicitDefEqProofs only [go_sem];rfl)
 case he1=>rfl
 case he21=>rfl
 case' step1=>(rintro⟨i,n⟩ hI;try dsimp only at hI)
 case' hI1=>try dsimp only
 ·simp
 ·obtain⟨hi0,hi1,hn0,hn1,heq⟩:=hI
  by_cases hi:i < xs.length
  ·have hg:Y[i.toNat]?.getD 0=ys[(at_+i).toNat]?.getD 0:=by
    rw [←hY,List.getElem?_drop,show at_.toNat+i.toNat=(at_+i).toNat by omega]
   have hd:CX (xs.drop i.toNat) (Y.drop i.toNat)=(if xs[i.toNat]?.getD 0=ys[(at_+i).toNat]?.getD 0 then 0 else 1)+CX (xs.drop (i+1).toNat) (Y.drop (i+1).toNat):=by
    rw [FS (xs:=xs) (i:=i.toNat) (by omega),FS (xs:=Y) (i:=i.toNat) (by omega),CX,hg,show (i+1).toNat=i.toNat+1 by omega]
   rw [hd] at heq
   have hwr:IntKind.i64.wrap (at_+i)=at_+i:=AC _ (by omega)
   (try (simp -implicitDefEqProofs only [go_sem,hwr]));repeat' first|(with_reducible first|exact True.intro|refine And.intro ?_ ?_|intro _)|(((with_reducible refine AS ?_ ?_)<;>intro _)<;>try (simp -implicitDefEqProofs only [go_sem,hwr]))|simp (disch:=omega) only [AC,AH,AP,AJ,AD,AQ,AI,AA]|((with_reducible refine An ?_);refine⟨(_,_),rfl,?_,?_⟩)
   all_goals first|omega|(simp;done)|(simp;omega)|skip
   all_goals simp_all
   all_goals omega
  ·(try (simp -implicitDefEqProofs only [go_sem]));repeat' first|(with_reducible first|exact True.intro|refine And.intro ?_ ?_|intro _)|(((with_reducible refine AS ?_ ?_)<;>intro _)<;>try (simp -implicitDefEqProofs only [go_sem]))|simp (disch:=omega) only [AC,AH,AP,AJ,AD,AQ,AI,AA]|((with_reducible refine An ?_);refine⟨(_,_),rfl,?_,?_⟩)
   all_goals first|omega|(simp;done)|(simp;omega)|skip
   have h0:xs.drop i.toNat=[]:=List.drop_eq_nil_of_le (by omega)
   rw [h0,show CX [] (Y.drop i.toNat)=0 by simp [CX]] at heq
   rw [←heq];simp
theorem No (nl:Bool) (xs:List Int):CF E0 Kx [.list nl (Ai xs)] (.bool (CZ xs)):=by
 refine AO N6 Am (by simp) fun hwf=>?_
 rw [AW];unfold JW
 (try (simp -implicitDefEqProofs only [go_sem]));repeat' first|(with_reducible first|exact True.intro|refine And.intro ?_ ?_|intro _)|(((with_reducible refine isCall ?_);first|refine AF (Al _ _ _) rfl ?_ ?_|refine AE (Al _ _ _) rfl ?_|refine AB (Al _ _ _) rfl ?_ ?_|refine AG (Al _ _ _) rfl rfl ?_|refine AF (EE nl xs) rfl ?_ ?_|refine AE (EE nl xs) rfl ?_|refine AB (EE nl xs) rfl ?_ ?_|refine AG (EE nl xs) rfl rfl ?_)<;>try (simp -implicitDefEqProofs only [go_sem]))|(((with_reducible refine AS ?_ ?_)<;>intro _)<;>try (simp -implicitDefEqProofs only [go_sem]))|simp (disch:=omega) only [AC,AH,AP,AJ,AD,AQ,AI,AA]
 all_goals simp_all [CZ]
def jX (bits:List Int):List Int→List Int→List Int
 |out,[]=>out
 |out,s :: l=>jX bits (if 0≤s∧s < bits.length then out.set s.toNat (1 - bits[s.toNat]?.getD 0) else out) l
end Go.Pw
end
section
open Go Go.Pw Go.Proofs
namespace Go.Pw
set_option linter.unusedSimpArgs false
set_option linter.unusedVariables false
set_option maxRecDepth 100000
set_option maxHeartbeats 1600000
attribute [local congr] Bh A_ A' Ap Bi Av Ax Aw Ao Ah Ab AZ Ar Ac As BI BM BK BL BJ BN BF Af Au Ag BD BQ Ae BG BH BE BB BC A9 BA Aq Ad
attribute [local irreducible] IntKind.wrap A5 Option.getD and or
def AU.decW (c:AU) (rec:Int→GR→Option (List Int)×GR) (s:Int) (own:List Int):Nat→Int→GR→Option (List Int)×GR
 |0,_,m=>(none,m)
 |n+1,w,m =>
  if own=Cg c.out.toNat (c.wrd s w) then
   match (rec (c.nxt s w) m).1 with
   |some l=>(some (w :: l),(rec (c.nxt s w) m).2)
   |none=>c.decW rec s own n (w+1) (rec (c.nxt s w) m).2
  else c.decW rec s own n (w+1) m
def AU.decM (c:AU) (bits:List Int):Nat→Int→Int→GR→Option (List Int)×GR
 |0,_,_,m=>(some [],m)
 |k+1,s,p,m =>
  if cG (s,p) m=none then
   match (c.decW (fun s' m'=>c.decM bits k s' (p+1) m') s ((bits.drop (p * c.out).toNat).take c.out.toNat) c.W 0 m).1 with
   |some l=>(some l,(c.decW (fun s' m'=>c.decM bits k s' (p+1) m') s ((bits.drop (p * c.out).toNat).take c.out.toNat) c.W 0 m).2)
   |none=>(none,(c.decW (fun s' m'=>c.decM bits k s' (p+1) m') s ((bits.drop (p * c.out).toNat).take c.out.toNat) c.W 0 m).2++[((s,p),1)])
  else (none,m)
def AU.Tab (c:AU) (m:GR):Prop:=(m.map (·.1)).Nodup∧∀e,e∈m→e.2=1∧c.isState e.1.1=true∧0≤e.1.2∧e.1.2≤24
def nH (p:Int) (m m':GR):Prop:=∀e,e∈m'→e∈m∨p≤e.1.2
def nO (o:Option (List Int)):D:=match o with|some l=>.list false (Ai l)|none=>.list true []
theorem Jf (n1 n2:Bool) (xs ys:List Int):CF E0 FX [.list n1 (Ai xs),.list n2 (Ai ys)] (.bool (decide (xs=ys))):=by
 refine AO Hu Am (by simp) fun hwf=>?_
 simp only [Dl,DB,DA,Cw,D7,D6,Fi,D5,Bd,Bo,Bp,DC,B1,List.length_map,Bx,true_and,and_true] at hwf
 rw [AW];unfold E6
 by_cases hl:xs.length=ys.length
 ·(try (simp -implicitDefEqProofs only [go_sem]));repeat' first|(with_reducible first|exact True.intro|refine And.intro ?_ ?_|intro _)|(((with_reducible refine AS ?_ ?_)<;>intro _)<;>try (simp -implicitDefEqProofs only [go_sem]))|simp (disch:=omega) only [AC,AH,AP,AJ,AD,AQ,AI,AA]|((with_reducible refine A4 ?_);refine⟨_,rfl,?_,?_⟩)
  all_goals first|omega|(simp;done)|(simp;omega)|skip
  refine AY (α:=Int) (l0:=?l1) (m0:=?m1) (fun x=>[(13,.d (.int .i64 x))]) (fun x=>[]) (fun x=>0≤x∧x≤xs.length∧xs.take x.toNat=ys.take x.toNat) (fun x=>(xs.length - x).toNat) ?a1_0 ?h01 ?he1 ?he21 ?hI1 ?step1
  case h01=>(simp -implicitDefEqProofs only [go_sem];rfl)
  case he1=>rfl
  case he21=>rfl
  case' step1=>(rintro i hI;try dsimp only at hI)
  case' hI1=>try dsimp only
  ·simp
  ·obtain⟨hi0,hi1,heq⟩:=hI
   by_cases hi:i < xs.length
   ·have hx:=take_get (xs:=xs) (i:=i.toNat) (by omega)
    have hy:=take_get (xs:=ys) (i:=i.toNat) (by omega)
    have hii:(i+1).toNat=i.toNat+1:=by omega
    by_cases he:xs[i.toNat]?.getD 0=ys[i.toNat]?.getD 0
    ·(try (simp -implicitDefEqProofs only [go_sem]));repeat' first|(with_reducible first|exact True.intro|refine And.intro ?_ ?_|intro _)|(((with_reducible refine AS ?_ ?_)<;>intro _)<;>try (simp -implicitDefEqProofs only [go_sem]))|simp (disch:=omega) only [AC,AH,AP,AJ,AD,AQ,AI,AA]|((with_reducible refine A4 ?_);refine⟨_,rfl,?_,?_⟩)
     all_goals (try simp (disch:=omega) only [AC,AH,AP,AJ,AD,AQ,AI,AA] at *)
     all_goals first|omega|(simp;done)|(simp;omega)|skip
     all_goals (rw [hii,hx,hy,heq,he])
    ·have hne:¬xs=ys:=fun e=>he (by rw [e])
     (try (simp -implicitDefEqProofs only [go_sem]));repeat' first|(with_reducible first|exact True.intro|refine And.intro ?_ ?_|intro _)|(((with_reducible refine AS ?_ ?_)<;>intro _)<;>try (simp -implicitDefEqProofs only [go_sem]))|simp (disch:=omega) only [AC,AH,AP,AJ,AD,AQ,AI,AA]|((with_reducible refine A4 ?_);refine⟨_,rfl,?_,?_⟩)
     all_goals first|omega|(simp;done)|(simp;omega)|skip
     all_goals first|(exfalso;omega)|simp [hne]
   ·have hxy:xs=ys:=by
     have h1:xs.take i.toNat=xs:=List.take_of_length_le (by omega)
     have h2:ys.take i.toNat=ys:=List.take_of_length_le (by omega)
     rw [←h1,heq,h2]
    (try (simp -implicitDefEqProofs only [go_sem]));repeat' first|(with_reducible first|exact True.intro|refine And.intro ?_ ?_|intro _)|(((with_reducible refine AS ?_ ?_)<;>intro _)<;>try (simp -implicitDefEqProofs only [go_sem]))|simp (disch:=omega) only [AC,AH,AP,AJ,AD,AQ,AI,AA]|((with_reducible refine A4 ?_);refine⟨_,rfl,?_,?_⟩)
    all_goals first|omega|(simp;done)|(simp;omega)|skip
    all_goals simp [hxy]
 ·have hne:¬xs=ys:=fun e=>hl (by rw [e])
  (try (simp -implicitDefEqProofs only [go_sem]));repeat' first|(with_reducible first|exact True.intro|refine And.intro ?_ ?_|intro _)|(((with_reducible refine AS ?_ ?_)<;>intro _)<;>try (simp -implicitDefEqProofs only [go_sem]))|simp (disch:=omega) only [AC,AH,AP,AJ,AD,AQ,AI,AA]|((with_reducible refine A4 ?_);refine⟨_,rfl,?_,?_⟩)
  all_goals first|(exfalso;omega)|simp [hne]
def AU.decR (c:AU) (s:Int) (bits:List Int):Option (List Int)×Int :=
 if !c.ok then (none,40) else if !c.isState s then (none,41)
 else if !(Ak bits && decide ((bits.length:Int).tmod c.out=0) && decide ((bits.length:Int)≤c.out * 24)) then (none,1)
 else match (c.decM bits (bits.length / c.out.toNat) s 0 []).1 with
  |some l=>(some l,0)
  |none=>(none,3)
end Go.Pw
end
section
open Go Go.Pw Go.Proofs
namespace Go.Pw
set_option linter.unusedSimpArgs false
set_option linter.unusedVariables false
def AU.apPW (c:AU) (rec:Int→List Int→Int) (s first:Int) (mark:List Int):Nat→Int→Int→Int
 |0,_,least=>least
 |k+1,w,least =>
  let bits:=(Cg c.out.toNat (c.wrd s w)).drop first.toNat
  let n:=min mark.length bits.length
  c.apPW rec s first mark k (w+1) (min least (CX (mark.take n) bits+rec (c.nxt s w) (mark.drop n)))
def AU.apP (c:AU):Nat→Int→Int→List Int→Int
 |0,_,_,_=>0
 |n+1,s,first,mark=>if mark=[] then 0 else c.apPW (fun s' mk=>c.apP n s' 0 mk) s first mark c.W 0 16
def AU.MemGood (c:AU) (M:List Int) (m:GR):Prop:=∀e,e∈m→0≤e.1.2∧e.1.2≤M.length∧e.2=c.apP e.1.2.toNat e.1.1 0 (M.drop (M.length - e.1.2.toNat))
theorem VK {xs:List Int} (h:Ak xs=true) (i:Nat) {v:Int} (hv:Cj v 0 1=true):Ak (xs.set i v)=true:=by
 simp only [Ak,List.all_eq_true] at *
 intro x hx
 rcases List.mem_or_eq_of_mem_set hx with h1|rfl
 ·exact h x h1
 ·exact hv
end Go.Pw
end
section
open Go Go.Pw Go.Proofs
namespace Go.Pw
set_option linter.unusedSimpArgs false
set_option linter.unusedVariables false
def AU.ownB (c:AU) (bits:List Int) (p:Int):List Int:=(bits.drop (p * c.out).toNat).take c.out.toNat
def AU.decPW (c:AU) (rec:Int→Option (List Int)) (s:Int) (own:List Int):Nat→Int→Option (List Int)
 |0,_=>none
 |n+1,w =>
  if own=Cg c.out.toNat (c.wrd s w) then
   match rec (c.nxt s w) with
   |some l=>some (w :: l)
   |none=>c.decPW rec s own n (w+1)
  else c.decPW rec s own n (w+1)
def AU.decP (c:AU) (bits:List Int):Nat→Int→Int→Option (List Int)
 |0,_,_=>some []
 |k+1,s,p=>c.decPW (fun s'=>c.decP bits k s' (p+1)) s (c.ownB bits p) c.W 0
def AU.TabOk (c:AU) (bits:List Int) (K:Int) (m:GR):Prop:=∀e,e∈m→c.decP bits (K - e.1.2).toNat e.1.1 e.1.2=none
end Go.Pw
end
section
open Go Go.Pw Go.Proofs
namespace Go.Pw
set_option linter.unusedSimpArgs false
set_option linter.unusedVariables false
def AU.lev (c:AU):Nat→List H4
 |0=>c.pairs0
 |j+1=>c.level (c.lev j) (decide ((j:Int)+1=1))
theorem AU.wrd_range (c:AU) (h:c.ok=true) {s w:Int} (hs:c.isState s=true) (hw:c.isWord w=true):0≤c.wrd s w∧c.wrd s w≤2 ^ c.out.toNat - 1:=by
 have hd:=AU.ok_head h
 have hWe:=AU.W_eq' c
 simp only [AU.isState,AU.isWord,Cj,decide_eq_true_eq] at hs hw
 obtain⟨h1,h2⟩:=AU.ok_words h s.toNat (by omega)
 refine h2 _ (Df ?_)
 rw [h1]
 have:((2 ^ c.bits.toNat:Nat):Int)=2 ^ c.bits.toNat:=by simp
 omega
end Go.Pw
end
section
open Go Go.Pw Go.Proofs
namespace Go.Pw
set_option linter.unusedSimpArgs false
set_option linter.unusedVariables false
set_option maxRecDepth 100000
set_option maxHeartbeats 1600000
attribute [local congr] Bh A_ A' Ap Bi Av Ax Aw Ao Ah Ab AZ Ar Ac As BI BM BK BL BJ BN BF Af Au Ag BD BQ Ae BG BH BE BB BC A9 BA Aq Ad
attribute [local irreducible] IntKind.wrap A5 Option.getD and or
theorem Nn (c:AU) (y0:Int) (h:0≤c.out∧c.out≤5) (hx:0≤y0∧y0≤1000):CF E0 Kw [HC c,.int .i64 y0] (.list (Cg c.out.toNat y0).isEmpty (Ai (Cg c.out.toNat y0))):=by
 refine AO N5 Am (by simp) fun hwf=>?_
 rw [AW];unfold JV
 (try (simp -implicitDefEqProofs only [go_sem,A6,A2,Az]));repeat' first|(with_reducible first|exact True.intro|refine And.intro ?_ ?_|intro _)|(((with_reducible refine AS ?_ ?_)<;>intro _)<;>try (simp -implicitDefEqProofs only [go_sem,A6,A2,Az]))|simp (disch:=omega) only [AC,AH,AP,AJ,AD,AQ,AI,AA]|((with_reducible refine BW ?_);refine⟨(_,_,_),rfl,?_,?_⟩)
 all_goals (try simp (disch:=omega) only [AC,AH,AP,AJ,AD,AQ,AI,AA] at *)
 refine AY (α:=Int×Bool×(List Int)) (l0:=?l1) (m0:=?m1) (fun x=>[(6,.d (.int .i64 x.1))]) (fun x=>[(21,.row R6 1 x.2.1 (Ai x.2.2))]) (fun x=>-1≤x.1∧x.1 < c.out∧x.2.2.length+x.1=c.out - 1∧x.2.1=x.2.2.isEmpty∧x.2.2++Cg (x.1+1).toNat y0=Cg c.out.toNat y0) (fun x=>(x.1+1).toNat) (?a1_0,?a1_1,[]) ?h01 ?he1 ?he21 ?hI1 ?step1
 case h01=>(simp -implicitDefEqProofs only [go_sem];rfl)
 case he1=>rfl
 case he21=>rfl
 case' step1=>(rintro⟨i,nl,acc⟩ hI;try dsimp only at hI)
 case' hI1=>try dsimp only
 ·simp;(try omega)
 ·obtain⟨h1,h2,h3,h4,h5⟩:=hI
  by_cases hi:0≤i
  ·have hb:Cg (i+1).toNat y0=(y0 / 2 ^ i.toNat % 2) :: Cg i.toNat y0:=by rw [show (i+1).toNat=i.toNat+1 by omega,Cg]
   rw [hb] at h5
   have hu:IntKind.u64.wrap i=i:=AH _ (by omega)
   (try (simp -implicitDefEqProofs only [go_sem,hu]));repeat' first|(with_reducible first|exact True.intro|refine And.intro ?_ ?_|intro _)|(((with_reducible refine AS ?_ ?_)<;>intro _)<;>try (simp -implicitDefEqProofs only [go_sem,hu]))|simp (disch:=omega) only [AC,AH,AP,AJ,AD,AQ,AI,AA]|((with_reducible refine BW ?_);refine⟨(_,_,_),rfl,?_,?_⟩)
   all_goals (try simp (disch:=omega) only [AC,AH,AP,AJ,AD,AQ,AI,AA] at *)
   all_goals first|omega|(simp;done)|(simp;omega)|skip
   all_goals (rw [←h5,show (i - 1+1).toNat=i.toNat by omega];simp)
  ·have h0:(i+1).toNat=0:=by omega
   rw [h0,Cg,List.append_nil] at h5
   (try (simp -implicitDefEqProofs only [go_sem]));repeat' first|(with_reducible first|exact True.intro|refine And.intro ?_ ?_|intro _)|(((with_reducible refine AS ?_ ?_)<;>intro _)<;>try (simp -implicitDefEqProofs only [go_sem]))|simp (disch:=omega) only [AC,AH,AP,AJ,AD,AQ,AI,AA]|((with_reducible refine BW ?_);refine⟨(_,_,_),rfl,?_,?_⟩)
   all_goals first|omega|(simp;done)|(simp;omega)|skip
   all_goals (rw [←h5,h4])
theorem Nm (c:AU) (h:c.ok=true) (s:Int) (nl:Bool) (l:List Int) (hs:c.isState s=true) (hw:∀w,w∈l→c.isWord w=true) (hl:l.length≤24) :
  CF E0 Kv [HC c,.int .i64 s,.list nl (Ai l)] (.tup [.list (c.stream s l).1.isEmpty (Ai (c.stream s l).1),.int .i64 (c.stream s l).2]):=by
 refine AO N4 Am (by simp) fun hwf=>?_
 have hd:=AU.ok_head h
 rw [AW];unfold JU
 (try (simp -implicitDefEqProofs only [go_sem,A6,A2,Az]));repeat' first|(with_reducible first|exact True.intro|refine And.intro ?_ ?_|intro _)|(((with_reducible refine AS ?_ ?_)<;>intro _)<;>try (simp -implicitDefEqProofs only [go_sem,A6,A2,Az]))|simp (disch:=omega) only [AC,AH,AP,AJ,AD,AQ,AI,AA]|((with_reducible refine CP ?_);refine⟨(_,_,_,_),rfl,?_,?_⟩)
 refine AY (α:=Int×Int×Bool×(List Int)) (l0:=?l2) (m0:=?m2) (fun x=>[(8,.d (.int .i64 x.1)),(1,.d (.int .i64 x.2.1))]) (fun x=>[(29,.row R6 1 x.2.2.1 (Ai x.2.2.2))]) (fun x=>0≤x.1∧x.1≤l.length∧c.isState x.2.1=true∧x.2.2.1=x.2.2.2.isEmpty∧x.2.2.2.length≤5 * x.1∧(x.2.2.2++(c.stream x.2.1 (l.drop x.1.toNat)).1,(c.stream x.2.1 (l.drop x.1.toNat)).2)=c.stream s l) (fun x=>(l.length - x.1).toNat) (?a2_0,s,?a2_2,[]) ?h02 ?he2 ?he22 ?hI2 ?step2
 case h02=>(simp -implicitDefEqProofs only [go_sem];rfl)
 case he2=>rfl
 case he22=>rfl
 case' step2=>(rintro⟨i,t,n2,acc⟩ hI;try dsimp only at hI)
 case' hI2=>try dsimp only
 ·simp [hs]
 ·obtain⟨hi0,hi1,ht,hn,ha,heq⟩:=hI
  by_cases hi:i < l.length
  ·have hiw:c.isWord (l[i.toNat]?.getD 0)=true:=hw _ (Df (by omega))
   have hr:=AU.wrd_range c h ht hiw
   have hp5:(2:Int) ^ c.out.toNat≤32:=by
    have:c.out.toNat=1∨c.out.toNat=2∨c.out.toNat=3∨c.out.toNat=4∨c.out.toNat=5:=by omega
    rcases this with h|h|h|h|h<;>rw [h]<;>decide
   have hst:=AU.nxt_state h ht hiw
   have cs:=Nn c (c.wrd t (l[i.toNat]?.getD 0)) (by omega) (by omega)
   have hbl:=H2 c.out.toNat (c.wrd t (l[i.toNat]?.getD 0))
   have hdr:l.drop i.toNat=(l[i.toNat]?.getD 0) :: l.drop (i+1).toNat:=by rw [FS (xs:=l) (i:=i.toNat) (by omega),show (i+1).toNat=i.toNat+1 by omega]
   rw [hdr] at heq
   simp only [AU.stream] at heq
   have ht':=ht
   have hiw':=hiw
   simp only [AU.isState,AU.isWord,Cj,decide_eq_true_eq] at ht' hiw'
   have hr1:=AU.ok_words h t.toNat (by omega)
   have hr2:=AU.ok_next h t.toNat (by omega)
   have hnc:((2 ^ c.bits.toNat:Nat):Int)=2 ^ c.bits.toNat:=by simp
   generalize hw0:l[i.toNat]?.getD 0=w at *
   generalize Cg c.out.toNat (c.wrd t w)=B at *
   have hBe:B.isEmpty=false:=by cases B with
    |nil=>simp at hbl;omega
    |cons _ _=>rfl
   (try (simp -implicitDefEqProofs only [go_sem,A6,A2,Az,CC,c.nxt_eq,c.wrd_eq,hw0]));repeat' first|(with_reducible first|exact True.intro|refine And.intro ?_ ?_|intro _)|(((with_reducible refine isCall ?_);first|refine AF (cs) rfl ?_ ?_|refine AE (cs) rfl ?_|refine AB (cs) rfl ?_ ?_|refine AG (cs) rfl rfl ?_)<;>try (simp -implicitDefEqProofs only [go_sem,A6,A2,Az,CC,c.nxt_eq,c.wrd_eq,hw0]))|(((with_reducible refine AS ?_ ?_)<;>intro _)<;>try (simp -implicitDefEqProofs only [go_sem,A6,A2,Az,CC,c.nxt_eq,c.wrd_eq,hw0]))|simp (disch:=omega) only [AC,AH,AP,AJ,AD,AQ,AI,AA]|((with_reducible refine CP ?_);refine⟨(_,_,_,_),rfl,?_,?_⟩)
   all_goals (try simp (disch:=omega) only [AC,AH,AP,AJ,AD,AQ,AI,AA] at *)
   all_goals first|omega|(simp;done)|(simp;omega)|skip
   all_goals first|exact hst|(rw [c.nxt_eq,←heq];simp;done)|(simp;omega)|(subst hn;cases acc<;>cases B<;>simp_all;done)|skip
  ·have h0:l.drop i.toNat=[]:=List.drop_eq_nil_of_le (by omega)
   rw [h0] at heq
   simp only [AU.stream,List.append_nil] at heq
   (try (simp -implicitDefEqProofs only [go_sem]));repeat' first|(with_reducible first|exact True.intro|refine And.intro ?_ ?_|intro _)|(((with_reducible refine AS ?_ ?_)<;>intro _)<;>try (simp -implicitDefEqProofs only [go_sem]))|simp (disch:=omega) only [AC,AH,AP,AJ,AD,AQ,AI,AA]|((with_reducible refine CP ?_);refine⟨(_,_,_,_),rfl,?_,?_⟩)
   all_goals first|omega|(simp;done)|(simp;omega)|skip
   all_goals (rw [←heq];try simp [hn])
def nN (o:Option (List Int)):D:=match o with|some l=>.list l.isEmpty (Ai l)|none=>.list true []
def nP (o:Option (List Int)):D:=.bool o.isSome
abbrev nc:=List (Option (List Int))
def AU.tbl (c:AU) (bits:List Int) (K:Nat) (q:Nat):nc:=(List.range c.words.length).map fun(s:Nat)=>c.decP bits (K - q) (s:Int) (q:Int)
end Go.Pw
end
section
open Go Go.Pw Go.Proofs
namespace Go.Pw
set_option linter.unusedSimpArgs false
set_option linter.unusedVariables false
set_option maxRecDepth 100000
set_option maxHeartbeats 12800000
attribute [local congr] Bh A_ A' Ap Bi Av Ax Aw Ao Ah Ab AZ Ar Ac As BI BM BK BL BJ BN BF Af Au Ag BD BQ Ae BG BH BE BB BC A9 BA Aq Ad
attribute [local irreducible] IntKind.wrap A5 Option.getD and or
end Go.Pw
end
section
open Go Go.Pw Go.Proofs
namespace Go.Pw
set_option linter.unusedSimpArgs false
set_option linter.unusedVariables false
set_option maxRecDepth 100000
set_option maxHeartbeats 3200000
attribute [local congr] Bh A_ A' Ap Bi Av Ax Aw Ao Ah Ab AZ Ar Ac As BI BM BK BL BJ BN BF Af Au Ag BD BQ Ae BG BH BE BB BC A9 BA Aq Ad
attribute [local irreducible] IntKind.wrap A5 Option.getD and or
def md (r:Bool×List Int):Bool×List Int:=(false,r.2)
def nC (c:AU):AU:=⟨c.bits,c.out,c.least,c.most,c.words.isEmpty,c.words.map md,c.next.isEmpty,c.next.map md⟩
end Go.Pw
end
section
open Go Go.Pw Go.Proofs
namespace Go.Pw
set_option linter.unusedSimpArgs false
set_option linter.unusedVariables false
set_option maxRecDepth 100000
set_option maxHeartbeats 3200000
attribute [local congr] Bh A_ A' Ap Bi Av Ax Aw Ao Ah Ab AZ Ar Ac As BI BM BK BL BJ BN BF Af Au Ag BD BQ Ae BG BH BE BB BC A9 BA Aq Ad
attribute [local irreducible] IntKind.wrap A5 Option.getD and or
def ny (l:H3) (n:Nat):H3:=(l.take n).map md
end Go.Pw
end
section
open Go Go.Pw Go.Proofs
namespace Go.Pw
set_option linter.unusedSimpArgs false
set_option linter.unusedVariables false
set_option maxRecDepth 100000
set_option maxHeartbeats 1600000
def Fr (c:AU):List D:=(List.range 16).map fun s=>.list false (Ai (c.stm s))
theorem PS (c:AU):(Fr c).length=16:=by simp [Fr]
theorem PT (c:AU) {s:Nat} (h:s < 16):(Fr c)[s]?=some (.list false (Ai (c.stm s))):=by simp [Fr,h]
theorem RI (c:AU):(Fr c).take 16=Fr c:=List.take_of_length_le (by rw [PS];omega)
def Q8 (c:AX) (r:List D):List D:=.int .i64 c.code.bits :: .int .i64 c.code.out :: .int .i64 c.code.least :: .int .i64 c.code.most :: .list c.code.nw (F4 c.code.words) :: .list c.code.nn (F4 c.code.next) :: .int .i64 c.L :: .int .i64 c.P :: .int .i64 c.Q :: .list c.nm (Ai c.mark) :: .int .i64 c.seed :: .int .i64 c.errs :: r
theorem A3 (c:AX) (r:List D):Q8 c r=.int .i64 c.code.bits :: .int .i64 c.code.out :: .int .i64 c.code.least :: .int .i64 c.code.most :: .list c.code.nw (F4 c.code.words) :: .list c.code.nn (F4 c.code.next) :: .int .i64 c.L :: .int .i64 c.P :: .int .i64 c.Q :: .list c.nm (Ai c.mark) :: .int .i64 c.seed :: .int .i64 c.errs :: r:=rfl
theorem P0 (a b c d e f g h i j k l:D) (r:List D) (n:Nat):(a :: b :: c :: d :: e :: f :: g :: h :: i :: j :: k :: l :: r)[12+n]?=r[n]?:=by rw [Nat.add_comm];rfl
theorem RQ (x:Int):(some x).getD 0=x:=rfl
theorem l9:∀n:Fin 16,A5 .and .i64 (n.val:Int) 3=(n.val:Int) % 4:=by decide +kernel
theorem ec {b k:Nat} (s:Int) (h:k < 4 / b):(J1 b s)[k]?.getD 0=s / 2 ^ ((4 / b - 1 - k) * b) % 2 ^ b:=by simp [J1,h]
theorem aN {b a:Int} {k s:Nat} (hb:b=1∨b=2) (hk:k < 4 / b.toNat) (ha:a=4 - b * ((k:Int)+1)) (hs:s < 16) :
  A5 .and .i64 ((s:Int) / 2 ^ a.toNat) (IntKind.i64.wrap (2 ^ b.toNat - 1))=(J1 b.toNat (s:Int))[k]?.getD 0:=by
 rw [ec _ hk]
 rcases hb with rfl|rfl
 ·have e:a.toNat=(4 / (1:Int).toNat - 1 - k) * (1:Int).toNat:=by simp;omega
  rw [←e,show IntKind.i64.wrap (2 ^ (1:Int).toNat - 1)=1 from AC 1 (by omega),AA];rfl
 ·have e:a.toNat=(4 / (2:Int).toNat - 1 - k) * (2:Int).toNat:=by simp at hk ⊢;omega
  rw [←e,show IntKind.i64.wrap (2 ^ (2:Int).toNat - 1)=3 from AC 3 (by omega)]
  have h1:(s:Int) / 2 ^ a.toNat=((s / 2 ^ a.toNat:Nat):Int):=by push_cast;rfl
  have h2:s / 2 ^ a.toNat < 16:=Nat.lt_of_le_of_lt (Nat.div_le_self _ _) hs
  rw [h1]
  exact l9 ⟨_,h2⟩
theorem jF (n:Int):n.fdiv (2 ^ min 1 64)=n / 2:=by rw [Vv];rfl
theorem SC {L P Q:Int} (h:Ct L P Q=true):2≤L∧L≤15∧1≤P∧P≤8∧P < L∧1≤Q∧Q≤8:=by
 obtain⟨l,p,q,rfl,rfl,rfl,b1,b2,b3,b4,b5,b6,b7,hc⟩:=Ix h
 omega
theorem Rd {L P Q:Int} (h:Ct L P Q=true):2≤Q * L∧Q * L≤120:=by
 obtain⟨l,p,q,rfl,rfl,rfl,b1,b2,b3,b4,b5,b6,b7,hc⟩:=Ix h
 have h1:q * l≤8 * 15:=Nat.mul_le_mul b7 b2
 have h2:1 * 2≤q * l:=Nat.mul_le_mul b6 b1
 have h3:(q:Int) * (l:Int)=((q * l:Nat):Int):=by push_cast;rfl
 rw [h3];omega
attribute [local congr] Bh A_ A' Ap Bi Av Ax Aw Ao Ah Ab AZ Ar Ac As BI BM BK BL BJ BN BF Af Au Ag BD BQ Ae BG BH BE BB BC A9 BA Aq Ad
attribute [local irreducible] IntKind.wrap A5 Option.getD and or
theorem IA (n lo hi:Int):CF E0 Kr [.int .i64 n,.int .i64 lo,.int .i64 hi] (.bool (Cj n lo hi)):=by
 refine AO Nz Am (by simp) fun hwf=>?_
 rw [AW];unfold JP
 (try (simp -implicitDefEqProofs only [go_sem]));repeat' first|(with_reducible first|exact True.intro|refine And.intro ?_ ?_|intro _)|(((with_reducible refine AS ?_ ?_)<;>intro _)<;>try (simp -implicitDefEqProofs only [go_sem]))|simp (disch:=omega) only [AC,AH,AP,AJ,AD,AQ,AI,AA]
 all_goals (simp only [Cj];congr 1;symm;first|(rw [decide_eq_true_eq];omega)|(rw [decide_eq_false_iff_not];omega))
theorem Ga (c:AX) (r:List D) (h:Ct c.L c.P c.Q=true):CF E0 Ef [.ptr (Q8 c r)] (.int .i64 (c.Q * c.L)):=by
 have hb:=Rd h
 have hw:IntKind.i64.wrap (c.Q * c.L)=c.Q * c.L:=AC _ (by omega)
 refine AO Gh Am (by simp) fun hwf=>?_
 rw [AW];unfold EP
 (try (simp -implicitDefEqProofs only [go_sem,A3,hw]));repeat' first|(with_reducible first|exact True.intro|refine And.intro ?_ ?_|intro _)|(((with_reducible refine AS ?_ ?_)<;>intro _)<;>try (simp -implicitDefEqProofs only [go_sem,A3,hw]))|simp (disch:=omega) only [AC,AH,AP,AJ,AD,AQ,AI,AA]
 all_goals first|rfl|omega|skip
theorem Fv (c:AX):CF E0 Fe [.ptr (Q8 c (Fr c.code))] (.int .i64 (c.code.sz:Nat)):=by
 have h0:(Fr c.code)[0]?=some (.list false (Ai (c.code.stm 0))):=PT _ (by omega)
 have hl:=K8 c.code 0
 refine AO Hz Am (by simp) fun hwf=>?_
 rw [AW];unfold E'
 (try (simp -implicitDefEqProofs only [go_sem,A3,h0,hl]));repeat' first|(with_reducible first|exact True.intro|refine And.intro ?_ ?_|intro _)|(((with_reducible refine AS ?_ ?_)<;>intro _)<;>try (simp -implicitDefEqProofs only [go_sem,A3,h0,hl]))|simp (disch:=omega) only [AC,AH,AP,AJ,AD,AQ,AI,AA]
 all_goals first|rfl|omega|skip
theorem O6 {c:AX} (h:Ct c.L c.P c.Q=true):c.Q * c.L=((c.syms:Nat):Int):=by have:=Rd h;unfold AX.syms;omega
theorem Fw (c:AX) (h:Ct c.L c.P c.Q=true) (hc:c.code.ok=true):CF E0 Fg [.ptr (Q8 c (Fr c.code))] (.int .i64 ((c.syms * c.code.sz:Nat):Int)):=by
 have c1:=Ga c (Fr c.code) h
 have c2:=Fv c
 have hb:=Rd h
 have he:=O6 h
 have hz:=Gt hc
 rw [he] at c1 hb
 have hm:c.syms * c.code.sz≤120 * 20:=Nat.mul_le_mul (by omega) hz.2
 have hw:IntKind.i64.wrap ((c.syms:Int) * (c.code.sz:Int))=((c.syms * c.code.sz:Nat):Int):=by rw [show (c.syms:Int) * (c.code.sz:Int)=((c.syms * c.code.sz:Nat):Int) by push_cast;rfl];exact AC _ (by omega)
 refine AO H1 Am (by simp) fun hwf=>?_
 rw [AW];unfold FB
 (try (simp -implicitDefEqProofs only [go_sem,hw]));repeat' first|(with_reducible first|exact True.intro|refine And.intro ?_ ?_|intro _)|(((with_reducible refine isCall ?_);first|refine AF (c1) rfl ?_ ?_|refine AE (c1) rfl ?_|refine AB (c1) rfl ?_ ?_|refine AG (c1) rfl rfl ?_|refine AF (c2) rfl ?_ ?_|refine AE (c2) rfl ?_|refine AB (c2) rfl ?_ ?_|refine AG (c2) rfl rfl ?_)<;>try (simp -implicitDefEqProofs only [go_sem,hw]))|(((with_reducible refine AS ?_ ?_)<;>intro _)<;>try (simp -implicitDefEqProofs only [go_sem,hw]))|simp (disch:=omega) only [AC,AH,AP,AJ,AD,AQ,AI,AA]
 all_goals first|rfl|omega|skip
theorem Jy (n:Int):CF E0 Ek [.int .i64 n] (.bool (!Cj n 0 1)):=by
 refine AO Jx Am (by simp) fun hwf=>?_
 rw [AW];unfold F_
 (try (simp -implicitDefEqProofs only [go_sem,jF]));repeat' first|(with_reducible first|exact True.intro|refine And.intro ?_ ?_|intro _)|(((with_reducible refine AS ?_ ?_)<;>intro _)<;>try (simp -implicitDefEqProofs only [go_sem,jF]))|simp (disch:=omega) only [AC,AH,AP,AJ,AD,AQ,AI,AA]
 all_goals (simp only [Cj];congr 1;symm;first|(rw [Bool.not_eq_false',decide_eq_true_eq];omega)|(rw [Bool.not_eq_true',decide_eq_false_iff_not];omega))
theorem LS (nl:Bool) (xs:List Int):CF E0 Hp [.list nl (Ai xs)] (.bool (Nq xs)):=by
 have c1:=CL nl xs Ek [] (fun n=>!Cj n 0 1) (by kernel_rfl) rfl (fun x _=>Jy x)
 refine AO LN Am (by simp) fun hwf=>?_
 simp only [Dl,DB,DA,Cw,D7,D6,Fi,D5,Bd,Bo,Bp,DC,B1,List.length_map,Bx,true_and,and_true] at hwf
 rw [AW];unfold Gz
 have e:(!xs.any fun n=>!Cj n 0 1)=Ak xs:=by simp [Ak,List.all_eq_not_any_not]
 (try (simp -implicitDefEqProofs only [go_sem]));repeat' first|(with_reducible first|exact True.intro|refine And.intro ?_ ?_|intro _)|(((with_reducible refine isCall ?_);first|refine AF (c1) rfl ?_ ?_|refine AE (c1) rfl ?_|refine AB (c1) rfl ?_ ?_|refine AG (c1) rfl rfl ?_)<;>try (simp -implicitDefEqProofs only [go_sem]))|(((with_reducible refine AS ?_ ?_)<;>intro _)<;>try (simp -implicitDefEqProofs only [go_sem]))|simp (disch:=omega) only [AC,AH,AP,AJ,AD,AQ,AI,AA]
 all_goals (unfold Nq;rw [←e];first|rfl|(congr 1;symm;simp_all;done)|(congr 1;symm;simp_all;omega)|skip)
theorem ED (c:AX) (h:Ct c.L c.P c.Q=true):CF E0 Jg [FT c] (.int .i64 (c.Q * c.L)):=by
 have hb:=Rd h
 have hw:IntKind.i64.wrap (c.Q * c.L)=c.Q * c.L:=AC _ (by omega)
 refine AO M3 Am (by simp) fun hwf=>?_
 rw [AW];unfold IC
 (try (simp -implicitDefEqProofs only [go_sem,AL,AK,hw]));repeat' first|(with_reducible first|exact True.intro|refine And.intro ?_ ?_|intro _)|(((with_reducible refine AS ?_ ?_)<;>intro _)<;>try (simp -implicitDefEqProofs only [go_sem,AL,AK,hw]))|simp (disch:=omega) only [AC,AH,AP,AJ,AD,AQ,AI,AA]
 all_goals first|rfl|omega|skip
theorem KC (c:AX) (h:c.code.ok=true):CF E0 NY [FT c] (.int .i64 (c.code.sz:Nat)):=by
 have h1:=AU.ok_head h
 have hz:=Gt h
 have e:IntKind.i64.wrap (IntKind.i64.wrap ((4:Int).tdiv c.code.bits) * c.code.out)=((c.code.sz:Nat):Int):=by
  have h2:c.code.bits=1∨c.code.bits=2:=by omega
  unfold AU.sz
  rcases h2 with h2|h2
  ·rw [h2,show (4:Int).tdiv 1=4 from rfl,AC 4 (by omega),AC _ (by omega),show (1:Int).toNat=1 from rfl];omega
  ·rw [h2,show (4:Int).tdiv 2=2 from rfl,AC 2 (by omega),AC _ (by omega),show (2:Int).toNat=2 from rfl];omega
 refine AO QB Am (by simp) fun hwf=>?_
 rw [AW];unfold LW
 (try (simp -implicitDefEqProofs only [go_sem,AL,AK,e]));repeat' first|(with_reducible first|exact True.intro|refine And.intro ?_ ?_|intro _)|(((with_reducible refine AS ?_ ?_)<;>intro _)<;>try (simp -implicitDefEqProofs only [go_sem,AL,AK,e]))|simp (disch:=omega) only [AC,AH,AP,AJ,AD,AQ,AI,AA]
 all_goals first|rfl|omega|skip
theorem JN (c:AX) (h:Ct c.L c.P c.Q=true) (hc:c.code.ok=true) (hm:c.mark.length≤1000):CF E0 Li [FT c] (.int .i64 (c.tot:Nat)):=by
 have c1:=ED c h
 have c2:=KC c hc
 have hb:=Rd h
 have he:=O6 h
 have hz:=Gt hc
 rw [he] at c1 hb
 have hmm:c.syms * c.code.sz≤120 * 20:=Nat.mul_le_mul (by omega) hz.2
 have hw:IntKind.i64.wrap ((c.syms:Int) * (c.code.sz:Int))=((c.syms * c.code.sz:Nat):Int):=by rw [show (c.syms:Int) * (c.code.sz:Int)=((c.syms * c.code.sz:Nat):Int) by push_cast;rfl];exact AC _ (by omega)
 have hw2:IntKind.i64.wrap ((c.mark.length:Int)+((c.syms * c.code.sz:Nat):Int))=((c.tot:Nat):Int):=by rw [AC _ (by omega)];unfold AX.tot;omega
 refine AO Oq Am (by simp) fun hwf=>?_
 rw [AW];unfold KF
 (try (simp -implicitDefEqProofs only [go_sem,AL,AK,hw,hw2]));repeat' first|(with_reducible first|exact True.intro|refine And.intro ?_ ?_|intro _)|(((with_reducible refine isCall ?_);first|refine AF (c1) rfl ?_ ?_|refine AE (c1) rfl ?_|refine AB (c1) rfl ?_ ?_|refine AG (c1) rfl rfl ?_|refine AF (c2) rfl ?_ ?_|refine AE (c2) rfl ?_|refine AB (c2) rfl ?_ ?_|refine AG (c2) rfl rfl ?_)<;>try (simp -implicitDefEqProofs only [go_sem,AL,AK,hw,hw2]))|(((with_reducible refine AS ?_ ?_)<;>intro _)<;>try (simp -implicitDefEqProofs only [go_sem,AL,AK,hw,hw2]))|simp (disch:=omega) only [AC,AH,AP,AJ,AD,AQ,AI,AA]
 all_goals first|rfl|omega|skip
theorem Nl (s:Nat) (h:s < 16):CF E0 Ks [.int .i64 (s:Int)] (.list false (Ai (J1 1 s))):=by
 have e0:∀x:Int,0≤x→x.tmod 2=x % 2:=fun x hx=>Int.tmod_eq_emod_of_nonneg hx
 have e1:∀y:Int,(s:Int).tdiv y=(s:Int) / y:=fun y=>Int.tdiv_eq_ediv_of_nonneg (by omega)
 have e:J1 1 (s:Int)=[(s:Int).tdiv 8,((s:Int).tdiv 4).tmod 2,((s:Int).tdiv 2).tmod 2,(s:Int).tmod 2]:=by
  rw [e1,e1,e1,e0 _ (by omega),e0 _ (by omega),e0 _ (by omega)]
  show [(s:Int) / 8 % 2,(s:Int) / 4 % 2,(s:Int) / 2 % 2,(s:Int) / 1 % 2]=_
  rw [show (s:Int) / 8 % 2=(s:Int) / 8 by omega,Int.ediv_one]
 have w8:IntKind.i64.wrap ((s:Int).tdiv 8)=(s:Int).tdiv 8:=AC _ (by rw [e1];omega)
 have w4:IntKind.i64.wrap ((s:Int).tdiv 4)=(s:Int).tdiv 4:=AC _ (by rw [e1];omega)
 have w2:IntKind.i64.wrap ((s:Int).tdiv 2)=(s:Int).tdiv 2:=AC _ (by rw [e1];omega)
 refine AO N0 Am (by simp) fun hwf=>?_
 rw [AW];unfold JQ
 (try (simp -implicitDefEqProofs only [go_sem,e,w8,w4,w2]));repeat' first|(with_reducible first|exact True.intro|refine And.intro ?_ ?_|intro _)|(((with_reducible refine AS ?_ ?_)<;>intro _)<;>try (simp -implicitDefEqProofs only [go_sem,e,w8,w4,w2]))|simp (disch:=omega) only [AC,AH,AP,AJ,AD,AQ,AI,AA]
 all_goals first|rfl|omega|skip
theorem Gn {α:Type} {l:List α} (h:l≠[]):l.isEmpty=false:=by cases l with
 |nil=>exact absurd rfl h
 |cons _ _=>rfl
theorem IB (c:AX) (hc:c.code.ok=true) (s:Nat) (h:s < 16):CF E0 Kt [FT c,.int .i64 (s:Int)] (.list false (Ai (c.code.stm s))):=by
 have c1:=Nl s h
 have c2:=Nm c.code hc 0 false (J1 c.code.bits.toNat s) (PJ hc) (PL hc s) (by rw [HU];rcases PH hc with h1|h1<;>rw [h1]<;>omega)
 have he:=Gn (Vm hc s)
 unfold AU.stm at he ⊢
 rw [he] at c2
 have h1:=AU.ok_head hc
 have hw:J1 1 (s:Int)=[(s:Int) / 8 % 2,(s:Int) / 4 % 2,(s:Int) / 2 % 2,(s:Int) / 1 % 2]:=rfl
 refine AO N1 Am (by simp) fun hwf=>?_
 rw [AW];unfold JR
 by_cases hb:c.code.bits=2
 ·have h2:J1 c.code.bits.toNat (s:Int)=[2 * ((s:Int) / 8 % 2)+(s:Int) / 4 % 2,2 * ((s:Int) / 2 % 2)+(s:Int) / 1 % 2]:=by
   rw [hb]
   show [(s:Int) / 4 % 4,(s:Int) / 1 % 4]=_
   congr 1
   ·omega
   ·congr 1;omega
  rw [h2] at c2 ⊢
  rw [hw] at c1
  have wa:IntKind.i64.wrap (2 * ((s:Int) / 8 % 2))=2 * ((s:Int) / 8 % 2):=AC _ (by omega)
  have wb:IntKind.i64.wrap (2 * ((s:Int) / 2 % 2))=2 * ((s:Int) / 2 % 2):=AC _ (by omega)
  have wc:IntKind.i64.wrap (2 * ((s:Int) / 8 % 2)+(s:Int) / 4 % 2)=2 * ((s:Int) / 8 % 2)+(s:Int) / 4 % 2:=AC _ (by omega)
  have wd:IntKind.i64.wrap (2 * ((s:Int) / 2 % 2)+(s:Int) / 1 % 2)=2 * ((s:Int) / 2 % 2)+(s:Int) / 1 % 2:=AC _ (by omega)
  have hbT:=eq_true hb
  (try (simp -implicitDefEqProofs only [go_sem,AL,AK,hbT,RQ,wa,wb,wc,wd]));repeat' first|(with_reducible first|exact True.intro|refine And.intro ?_ ?_|intro _)|(((with_reducible refine isCall ?_);first|refine AF (c1) rfl ?_ ?_|refine AE (c1) rfl ?_|refine AB (c1) rfl ?_ ?_|refine AG (c1) rfl rfl ?_|refine AF (c2) rfl ?_ ?_|refine AE (c2) rfl ?_|refine AB (c2) rfl ?_ ?_|refine AG (c2) rfl rfl ?_)<;>try (simp -implicitDefEqProofs only [go_sem,AL,AK,hbT,RQ,wa,wb,wc,wd]))|(((with_reducible refine AS ?_ ?_)<;>intro _)<;>try (simp -implicitDefEqProofs only [go_sem,AL,AK,hbT,RQ,wa,wb,wc,wd]))|simp (disch:=omega) only [AC,AH,AP,AJ,AD,AQ,AI,AA]
  all_goals first|rfl|omega|skip
 ·have h2:c.code.bits.toNat=1:=by omega
  rw [h2] at c2 ⊢
  (try (simp -implicitDefEqProofs only [go_sem,AL,AK,hb]));repeat' first|(with_reducible first|exact True.intro|refine And.intro ?_ ?_|intro _)|(((with_reducible refine isCall ?_);first|refine AF (c1) rfl ?_ ?_|refine AE (c1) rfl ?_|refine AB (c1) rfl ?_ ?_|refine AG (c1) rfl rfl ?_|refine AF (c2) rfl ?_ ?_|refine AE (c2) rfl ?_|refine AB (c2) rfl ?_ ?_|refine AG (c2) rfl rfl ?_)<;>try (simp -implicitDefEqProofs only [go_sem,AL,AK,hb]))|(((with_reducible refine AS ?_ ?_)<;>intro _)<;>try (simp -implicitDefEqProofs only [go_sem,AL,AK,hb]))|simp (disch:=omega) only [AC,AH,AP,AJ,AD,AQ,AI,AA]
  all_goals first|rfl|omega|skip
theorem EN (n1 n2:Bool) (xs ys:List Int):CF E0 NZ [.list n1 (Ai xs),.list n2 (Ai ys)] (.bool (decide (xs=ys))):=by
 refine AO QC Am (by simp) fun hwf=>?_
 simp only [Dl,DB,DA,Cw,D7,D6,Fi,D5,Bd,Bo,Bp,DC,B1,List.length_map,Bx,true_and,and_true] at hwf
 rw [AW];unfold LX
 simp -implicitDefEqProofs only [go_sem]
 refine AY (α:=Nat) (l0:=?l1) (m0:=?m1) (fun x=>[(5,.d (.int .i64 (x:Int)))]) (fun x=>[]) (fun x=>x≤xs.length∧x≤ys.length∧xs.take x=ys.take x) (fun x=>xs.length - x) 0 ?h01 ?he1 ?he21 ?hI1 ?step1
 case h01=>(simp -implicitDefEqProofs only [go_sem];rfl)
 case he1=>rfl
 case he21=>rfl
 case' step1=>(rintro i hI;try dsimp only at hI)
 case' hI1=>try dsimp only
 ·exact⟨Nat.zero_le _,Nat.zero_le _,rfl⟩
 ·obtain⟨i1,i2,i3⟩:=hI
  by_cases h:i < xs.length∧i < ys.length
  ·have h1:(i:Int) < (xs.length:Int):=by omega
   have h2:(i:Int) < (ys.length:Int):=by omega
   have hwi:IntKind.i64.wrap ((i:Int)+1)=((i+1:Nat):Int):=by rw [AC _ (by omega)];omega
   have hx:xs.take (i+1)=xs.take i++[xs[i]?.getD 0]:=by rw [List.take_add_one];simp [h.1]
   have hy:ys.take (i+1)=ys.take i++[ys[i]?.getD 0]:=by rw [List.take_add_one];simp [h.2]
   (try (simp -implicitDefEqProofs only [go_sem,h1,h2,hwi,h.1,h.2]));repeat' first|(with_reducible first|exact True.intro|refine And.intro ?_ ?_|intro _)|(((with_reducible refine AS ?_ ?_)<;>intro _)<;>try (simp -implicitDefEqProofs only [go_sem,h1,h2,hwi,h.1,h.2]))|simp (disch:=omega) only [AC,AH,AP,AJ,AD,AQ,AI,AA]|((with_reducible refine A4 ?_);refine⟨_,rfl,?_,?_⟩)
   all_goals first|omega|(simp;done)|(simp;omega)|skip
   ·rename_i he
    rw [hx,hy,i3,he]
   ·rename_i he
    congr 1;symm
    rw [decide_eq_false_iff_not]
    intro e;exact he (by rw [e])
  ·by_cases hl:xs.length=ys.length
   ·have hi1:¬(i:Int) < (xs.length:Int):=by omega
    have hi2:¬(i:Int) < (ys.length:Int):=by omega
    have:xs=ys:=by rw [←List.take_of_length_le (l:=xs) (i:=i) (by omega),i3,List.take_of_length_le (by omega)]
    (try (simp -implicitDefEqProofs only [go_sem,hi1,hi2,hl]));repeat' first|(with_reducible first|exact True.intro|refine And.intro ?_ ?_|intro _)|(((with_reducible refine AS ?_ ?_)<;>intro _)<;>try (simp -implicitDefEqProofs only [go_sem,hi1,hi2,hl]))|simp (disch:=omega) only [AC,AH,AP,AJ,AD,AQ,AI,AA]|((with_reducible refine A4 ?_);refine⟨_,rfl,?_,?_⟩)
    all_goals first|omega|(simp;done)|(simp;omega)|skip
    all_goals first|(congr 1;symm;rw [decide_eq_true_eq];exact this)|skip
   ·have hx:xs≠ys:=fun e=>hl (by rw [e])
    have hd:decide (xs=ys)=false:=decide_eq_false hx
    rw [hd]
    (try (simp -implicitDefEqProofs only [go_sem]));repeat' first|(with_reducible first|exact True.intro|refine And.intro ?_ ?_|intro _)|(((with_reducible refine AS ?_ ?_)<;>intro _)<;>try (simp -implicitDefEqProofs only [go_sem]))|simp (disch:=omega) only [AC,AH,AP,AJ,AD,AQ,AI,AA]|((with_reducible refine A4 ?_);refine⟨_,rfl,?_,?_⟩)
    all_goals first|omega|(simp;done)|(simp;omega)|skip
    all_goals skip
theorem NP (c:AU) (hc:c.ok=true) (s:Nat) (h:s < 16):CF E0 Jp [HC c,.int .i64 (s:Int)] (.list false (Ai (J1 c.bits.toNat s))):=by
 have h1:=AU.ok_head hc
 have hb:c.bits=1∨c.bits=2:=by omega
 have hn:c.bits.toNat=1∨c.bits.toNat=2:=PH hc
 have hlen:=HU c.bits.toNat (s:Int)
 refine AO NE Am (by simp) fun hwf=>?_
 rw [AW];unfold IS
 have w0:IntKind.i64.wrap (4 - c.bits)=4 - c.bits:=AC _ (by omega)
 (try (simp -implicitDefEqProofs only [go_sem,A6,A2,w0]));repeat' first|(with_reducible first|exact True.intro|refine And.intro ?_ ?_|intro _)|(((with_reducible refine AS ?_ ?_)<;>intro _)<;>try (simp -implicitDefEqProofs only [go_sem,A6,A2,w0]))|simp (disch:=omega) only [AC,AH,AP,AJ,AD,AQ,AI,AA]|((with_reducible refine BW ?_);refine⟨(_,_,_),rfl,?_,?_⟩)
 all_goals first|omega|(simp;done)|(simp;omega)|skip
 refine AY (α:=Nat×Int×Bool) (l0:=?l2) (m0:=?m2) (fun x=>[(6,.d (.int .i64 x.2.1))]) (fun x=>[(26,.row 3 1 x.2.2 (Ai ((J1 c.bits.toNat (s:Int)).take x.1)))]) (fun x=>x.1≤4 / c.bits.toNat∧x.2.1=4 - c.bits * ((x.1:Int)+1)∧x.2.2=decide (x.1=0)) (fun x=>4 / c.bits.toNat - x.1) (0,(4 - c.bits),true) ?h02 ?he2 ?he22 ?hI2 ?step2
 case h02=>(simp -implicitDefEqProofs only [go_sem,A6,A2];rfl)
 case he2=>rfl
 case he22=>rfl
 case' step2=>(rintro⟨k,a,nl⟩ hI;try dsimp only at hI)
 case' hI2=>try dsimp only
 ·exact⟨Nat.zero_le _,by rcases hb with h2|h2<;>rw [h2]<;>rfl,rfl⟩
 ·obtain⟨k1,k2,k3⟩:=hI
  change a=4 - c.bits * ((k:Int)+1) at k2
  change nl=decide (k=0) at k3
  by_cases hk:k < 4 / c.bits.toNat
  ·have ha:0≤a∧a≤3:=by
    rcases hb with h2|h2<;>rw [h2] at k2 hk<;>simp at hk<;>omega
   have h0:0≤a:=ha.1
   have e1:=aN hb hk k2 h
   obtain⟨x,hx⟩:∃x,(J1 c.bits.toNat (s:Int))[k]?.getD 0=x:=⟨_,rfl⟩
   have hst:(J1 c.bits.toNat (s:Int)).take (k+1)=(J1 c.bits.toNat (s:Int)).take k++[x]:=by
    rw [←hx,List.take_add_one,List.getElem?_eq_getElem (by rw [hlen];exact hk)];simp [Option.getD]
   rw [hx] at e1
   have hl4:((J1 c.bits.toNat (s:Int)).take k).length≤4:=by rw [List.length_take,hlen];have:=Nat.div_le_self 4 c.bits.toNat;omega
   have wn:IntKind.i64.wrap (a - c.bits)=a - c.bits:=AC _ (by omega)
   (try (simp -implicitDefEqProofs only [go_sem,A6,A2,h0,wn,e1]));repeat' first|(with_reducible first|exact True.intro|refine And.intro ?_ ?_|intro _)|(((with_reducible refine AS ?_ ?_)<;>intro _)<;>try (simp -implicitDefEqProofs only [go_sem,A6,A2,h0,wn,e1]))|simp (disch:=omega) only [AC,AH,AP,AJ,AD,AQ,AI,AA]|((with_reducible refine BW ?_);refine⟨(_,_,_),rfl,?_,?_⟩)
   all_goals first|omega|(simp;done)|(simp;omega)|skip
   rw [e1,←hst]
   refine⟨(k+1,a - c.bits,false),rfl,⟨by show k+1≤_;omega,?_,?_⟩,by show 4 / c.bits.toNat - (k+1) < _;omega⟩
   ·show a - c.bits=4 - c.bits * (((k+1:Nat):Int)+1)
    rw [k2];push_cast;rw [Int.mul_add,Int.mul_add,Int.mul_add];omega
   ·show false=decide (k+1=0)
    exact(decide_eq_false (by omega)).symm
  ·have ha:¬0≤a:=by
    rcases hb with h2|h2<;>rw [h2] at k2 hk<;>simp at hk<;>omega
   have hk0:nl=false:=by
     rw [k3,decide_eq_false];have:2≤4 / c.bits.toNat:=by rcases hn with h2|h2<;>rw [h2]<;>omega
     omega
   have htk:(J1 c.bits.toNat (s:Int)).take k=J1 c.bits.toNat (s:Int):=List.take_of_length_le (by rw [hlen];omega)
   rw [hk0,htk]
   (try (simp -implicitDefEqProofs only [go_sem,A6,A2,ha]));repeat' first|(with_reducible first|exact True.intro|refine And.intro ?_ ?_|intro _)|(((with_reducible refine AS ?_ ?_)<;>intro _)<;>try (simp -implicitDefEqProofs only [go_sem,A6,A2,ha]))|simp (disch:=omega) only [AC,AH,AP,AJ,AD,AQ,AI,AA]|((with_reducible refine BW ?_);refine⟨(_,_,_),rfl,?_,?_⟩)
   all_goals first|omega|(simp;done)|(simp;omega)|skip
   all_goals first|rfl|skip
end Go.Pw
end

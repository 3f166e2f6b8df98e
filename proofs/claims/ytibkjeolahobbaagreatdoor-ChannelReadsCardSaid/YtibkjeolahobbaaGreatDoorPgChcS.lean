/- A part of the proof. -/
import Derived.Test.YtibkjeolahobbaaGreatDoorPgChrPh2
import Derived.Test.YtibkjeolahobbaaGreatDoorPgChcJ
import Derived.Test.YtibkjeolahobbaaGreatDoorPgChcD
set_option linter.all false
open Go Go.Pw Go.Proofs
namespace Go.Pw
set_option maxRecDepth 100000
set_option maxHeartbeats 12800000
section
attribute [local congr] Bm A' BA Au Bn Az A1 A0 Ar Al Af Aa Aw Ag Ax BM BQ BO BP BN BR BG Aj Ay Ak BE BX Ai BK BL BF BH BJ BI BC BD A_ Bp BB Av Ah
attribute [local irreducible] IntKind.wrap A3 Option.getD and or
def AW.decW (c:AW) (rec:Int->G_->Option (List Int)×G_) (s:Int) (own:List Int):Nat->Int->G_->Option (List Int)×G_
 |0,_,m=>(none,m)
 |n+1,w,m =>
  if own=C5 c.out.toNat (c.wrd s w) then
   match (rec (c.nxt s w) m).1 with
   |some l=>(some (w::l),(rec (c.nxt s w) m).2)
   |none=>c.decW rec s own n (w+1) (rec (c.nxt s w) m).2
  else c.decW rec s own n (w+1) m
def AW.decM (c:AW) (bits:List Int):Nat->Int->Int->G_->Option (List Int)×G_
 |0,_,_,m=>(some [],m)
 |k+1,s,p,m =>
  if gN (s,p) m=none then
   match (c.decW (fun s' m'=>c.decM bits k s' (p+1) m') s ((bits.drop (p*c.out).toNat).take c.out.toNat) c.W 0 m).1 with
   |some l=>(some l,(c.decW (fun s' m'=>c.decM bits k s' (p+1) m') s ((bits.drop (p*c.out).toNat).take c.out.toNat) c.W 0 m).2)
   |none=>(none,(c.decW (fun s' m'=>c.decM bits k s' (p+1) m') s ((bits.drop (p*c.out).toNat).take c.out.toNat) c.W 0 m).2++[((s,p),1)])
  else (none,m)
def AW.Tab (c:AW) (m:G_):Prop:=(m.map (·.1)).Nodup/\∀e,e∈m->e.2=1/\c.isState e.1.1=true/\0<=e.1.2/\e.1.2<=24
def rk (p:Int) (m m':G_):Prop:=∀e,e∈m'->e∈m\/p<=e.1.2
def rx (o:Option (List Int)):D:=match o with|some l=>.list false (Ab l)|none=>.list true []
theorem Kh (n1 n2:Bool) (xs ys:List Int):CA E0 F2 [.list n1 (Ab xs),.list n2 (Ab ys)] (.bool (decide (xs=ys))):=by
 refine AL Io An (by simp) fun hwf=>?_
 simp only[DY,Cv,Cu,Ck,Dq,Dp,FD,Dn,Bj,Bt,Bu,Cy,B6,List.length_map,B4,true_and,and_true] at hwf
 rw[AR];unfold FW
 by_cases hl:xs.length=ys.length
 ·(try (simp -implicitDefEqProofs only[go_sem]));repeat' first|(with_reducible first|exact tI|refine aI ?_ ?_|intro _)|((first|with_reducible refine AK ?_ ?_<;>intro _)<;>try (simp -implicitDefEqProofs only[go_sem]))|simp (disch:=omega) only[Ae]|((with_reducible refine Ad ?_);refine⟨_,rfl,?_,?_⟩)
  all_goals first|omega|(simp<;>omega)|skip
  refine AX (α:=Int) (l0:=?l1) (m0:=?m1) (fun x=>[(13,.d (.int .i64 x))]) (fun x=>[]) (fun x=>0<=x/\x<=xs.length/\xs.take x.toNat=ys.take x.toNat) (fun x=>(xs.length-x).toNat) ?a1_0 ?h01 ?he1 ?he21 ?hI1 ?step1
  case h01=>(simp -implicitDefEqProofs only[go_sem];rfl)
  case he1=>rfl
  case he21=>rfl
  case' step1=>(rintro i hI;try dsimp only at hI)
  case' hI1=>try dsimp only
  ·simp
  ·obtain⟨hi0,hi1,heq⟩:=hI
   by_cases hi:i<xs.length
   ·have hx:=take_get (xs:=xs) (i:=i.toNat) (by omega)
    have hy:=take_get (xs:=ys) (i:=i.toNat) (by omega)
    have hii:(i+1).toNat=i.toNat+1:=by omega
    by_cases he:xs[i.toNat]?.getD 0=ys[i.toNat]?.getD 0
    ·(try (simp -implicitDefEqProofs only[go_sem]));repeat' first|(with_reducible first|exact tI|refine aI ?_ ?_|intro _)|((first|with_reducible refine AK ?_ ?_<;>intro _)<;>try (simp -implicitDefEqProofs only[go_sem]))|simp (disch:=omega) only[Ae]|((with_reducible refine Ad ?_);refine⟨_,rfl,?_,?_⟩)
     all_goals (try simp (disch:=omega) only[Ae] at *)
     all_goals first|omega|(simp<;>omega)|skip
     all_goals (rw[hii,hx,hy,heq,he])
    ·have hne:¬xs=ys:=fun e=>he (by rw[e])
     (try (simp -implicitDefEqProofs only[go_sem]));repeat' first|(with_reducible first|exact tI|refine aI ?_ ?_|intro _)|((first|with_reducible refine AK ?_ ?_<;>intro _)<;>try (simp -implicitDefEqProofs only[go_sem]))|simp (disch:=omega) only[Ae]|((with_reducible refine Ad ?_);refine⟨_,rfl,?_,?_⟩)
     all_goals first|omega|(simp<;>omega)|skip
     all_goals first|(exfalso;omega)|simp[hne]
   ·have hxy:xs=ys:=by
     have h1:xs.take i.toNat=xs:=List.take_of_length_le (by omega)
     have h2:ys.take i.toNat=ys:=List.take_of_length_le (by omega)
     rw[←h1,heq,h2]
    (try (simp -implicitDefEqProofs only[go_sem]));repeat' first|(with_reducible first|exact tI|refine aI ?_ ?_|intro _)|((first|with_reducible refine AK ?_ ?_<;>intro _)<;>try (simp -implicitDefEqProofs only[go_sem]))|simp (disch:=omega) only[Ae]|((with_reducible refine Ad ?_);refine⟨_,rfl,?_,?_⟩)
    all_goals first|omega|(simp<;>omega)|skip
    all_goals simp[hxy]
 ·have hne:¬xs=ys:=fun e=>hl (by rw[e])
  (try (simp -implicitDefEqProofs only[go_sem]));repeat' first|(with_reducible first|exact tI|refine aI ?_ ?_|intro _)|((first|with_reducible refine AK ?_ ?_<;>intro _)<;>try (simp -implicitDefEqProofs only[go_sem]))|simp (disch:=omega) only[Ae]|((with_reducible refine Ad ?_);refine⟨_,rfl,?_,?_⟩)
  all_goals first|(exfalso;omega)|simp[hne]
def AW.decR (c:AW) (s:Int) (bits:List Int):Option (List Int)×Int :=
 if !c.ok then (none,40) else if !c.isState s then (none,41)
 else if !(A8 bits && decide ((bits.length:Int).tmod c.out=0) && decide ((bits.length:Int)<=c.out*24)) then (none,1)
 else match (c.decM bits (bits.length/c.out.toNat) s 0 []).1 with
  |some l=>(some l,0)
  |none=>(none,3)
end
def AW.apPW (c:AW) (rec:Int->List Int->Int) (s first:Int) (mark:List Int):Nat->Int->Int->Int
 |0,_,least=>least
 |k+1,w,least =>
  let bits:=(C5 c.out.toNat (c.wrd s w)).drop first.toNat
  let n:=min mark.length bits.length
  c.apPW rec s first mark k (w+1) (min least (Cs (mark.take n) bits+rec (c.nxt s w) (mark.drop n)))
def AW.apP (c:AW):Nat->Int->Int->List Int->Int
 |0,_,_,_=>0
 |n+1,s,first,mark=>if mark=[] then 0 else c.apPW (fun s' mk=>c.apP n s' 0 mk) s first mark c.W 0 16
def AW.MemGood (c:AW) (M:List Int) (m:G_):Prop:=∀e,e∈m->0<=e.1.2/\e.1.2<=M.length/\e.2=c.apP e.1.2.toNat e.1.1 0 (M.drop (M.length-e.1.2.toNat))
def AW.ownB (c:AW) (bits:List Int) (p:Int):List Int:=(bits.drop (p*c.out).toNat).take c.out.toNat
def AW.decPW (c:AW) (rec:Int->Option (List Int)) (s:Int) (own:List Int):Nat->Int->Option (List Int)
 |0,_=>none
 |n+1,w =>
  if own=C5 c.out.toNat (c.wrd s w) then
   match rec (c.nxt s w) with
   |some l=>some (w::l)
   |none=>c.decPW rec s own n (w+1)
  else c.decPW rec s own n (w+1)
def AW.decP (c:AW) (bits:List Int):Nat->Int->Int->Option (List Int)
 |0,_,_=>some []
 |k+1,s,p=>c.decPW (fun s'=>c.decP bits k s' (p+1)) s (c.ownB bits p) c.W 0
def AW.TabOk (c:AW) (bits:List Int) (K:Int) (m:G_):Prop:=∀e,e∈m->c.decP bits (K-e.1.2).toNat e.1.1 e.1.2=none
def AW.lev (c:AW):Nat->List I1
 |0=>c.pairs0
 |j+1=>c.level (c.lev j) (decide ((j:Int)+1=1))
theorem AW.wrd_range (c:AW) (h:c.ok=true) {s w:Int}(hs:c.isState s=true) (hw:c.isWord w=true):0<=c.wrd s w/\c.wrd s w<=2^c.out.toNat-1:=by
 have hd:=AW.ok_head h
 have hWe:=AW.W_eq' c
 simp only[AW.isState,AW.isWord,C1,decide_eq_true_eq] at hs hw
 obtain⟨h1,h2⟩:=AW.ok_words h s.toNat (by omega)
 refine h2 _ (Dd ?_)
 rw[h1]
 have:((2^c.bits.toNat:Nat):Int)=2^c.bits.toNat:=by simp
 omega
section
attribute [local congr] Bm A' BA Au Bn Az A1 A0 Ar Al Af Aa Aw Ag Ax BM BQ BO BP BN BR BG Aj Ay Ak BE BX Ai BK BL BF BH BJ BI BC BD A_ Bp BB Av Ah
attribute [local irreducible] IntKind.wrap A3 Option.getD and or
theorem Pp (c:AW) (y0:Int) (h:0<=c.out/\c.out<=5) (hx:0<=y0/\y0<=1000):CA E0 L7 [Fz c,.int .i64 y0] (.list (C5 c.out.toNat y0).isEmpty (Ab (C5 c.out.toNat y0))):=by
 refine AL QB An (by simp) fun hwf=>?_
 rw[AR];unfold KW
 (try (simp -implicitDefEqProofs only[go_sem,BU,A9,BT]));repeat' first|(with_reducible first|exact tI|refine aI ?_ ?_|intro _)|((first|with_reducible refine AK ?_ ?_<;>intro _)<;>try (simp -implicitDefEqProofs only[go_sem,BU,A9,BT]))|simp (disch:=omega) only[Ae]|((with_reducible refine Ao ?_);refine⟨(_,_,_),rfl,?_,?_⟩)
 all_goals (try simp (disch:=omega) only[Ae] at *)
 refine AX (α:=Int×Bool×(List Int)) (l0:=?l1) (m0:=?m1) (fun x=>[(6,.d (.int .i64 x.1))]) (fun x=>[(21,.row TS 1 x.2.1 (Ab x.2.2))]) (fun x=>-1<=x.1/\x.1<c.out/\x.2.2.length+x.1=c.out-1/\x.2.1=x.2.2.isEmpty/\x.2.2++C5 (x.1+1).toNat y0=C5 c.out.toNat y0) (fun x=>(x.1+1).toNat) (?a1_0,?a1_1,[]) ?h01 ?he1 ?he21 ?hI1 ?step1
 case h01=>(simp -implicitDefEqProofs only[go_sem];rfl)
 case he1=>rfl
 case he21=>rfl
 case' step1=>(rintro⟨i,nl,acc⟩ hI;try dsimp only at hI)
 case' hI1=>try dsimp only
 ·simp;(try omega)
 ·obtain⟨h1,h2,h3,h4,h5⟩:=hI
  by_cases hi:0<=i
  ·have hb:C5 (i+1).toNat y0=(y0/2^i.toNat%2)::C5 i.toNat y0:=by rw[show (i+1).toNat=i.toNat+1 by omega,C5]
   rw[hb] at h5
   have hu:IntKind.u64.wrap i=i:=eV _ (by omega)
   (try (simp -implicitDefEqProofs only[go_sem,hu]));repeat' first|(with_reducible first|exact tI|refine aI ?_ ?_|intro _)|((first|with_reducible refine AK ?_ ?_<;>intro _)<;>try (simp -implicitDefEqProofs only[go_sem,hu]))|simp (disch:=omega) only[Ae]|((with_reducible refine Ao ?_);refine⟨(_,_,_),rfl,?_,?_⟩)
   all_goals (try simp (disch:=omega) only[Ae] at *)
   all_goals first|omega|(simp<;>omega)|skip
   all_goals (rw[←h5,show (i-1+1).toNat=i.toNat by omega];simp)
  ·have h0:(i+1).toNat=0:=by omega
   rw[h0,C5,List.append_nil] at h5
   (try (simp -implicitDefEqProofs only[go_sem]));repeat' first|(with_reducible first|exact tI|refine aI ?_ ?_|intro _)|((first|with_reducible refine AK ?_ ?_<;>intro _)<;>try (simp -implicitDefEqProofs only[go_sem]))|simp (disch:=omega) only[Ae]|((with_reducible refine Ao ?_);refine⟨(_,_,_),rfl,?_,?_⟩)
   all_goals first|omega|(simp<;>omega)|skip
   all_goals (rw[←h5,h4])
theorem Po (c:AW) (h:c.ok=true) (s:Int) (nl:Bool) (l:List Int) (hs:c.isState s=true) (hw:∀w,w∈l->c.isWord w=true) (hl:l.length<=24) :
  CA E0 L6 [Fz c,.int .i64 s,.list nl (Ab l)] (.tup [.list (c.stream s l).1.isEmpty (Ab (c.stream s l).1),.int .i64 (c.stream s l).2]):=by
 refine AL QA An (by simp) fun hwf=>?_
 have hd:=AW.ok_head h
 rw[AR];unfold KV
 (try (simp -implicitDefEqProofs only[go_sem,BU,A9,BT]));repeat' first|(with_reducible first|exact tI|refine aI ?_ ?_|intro _)|((first|with_reducible refine AK ?_ ?_<;>intro _)<;>try (simp -implicitDefEqProofs only[go_sem,BU,A9,BT]))|simp (disch:=omega) only[Ae]|((with_reducible refine Bf ?_);refine⟨(_,_,_,_),rfl,?_,?_⟩)
 refine AX (α:=Int×Int×Bool×(List Int)) (l0:=?l2) (m0:=?m2) (fun x=>[(8,.d (.int .i64 x.1)),(1,.d (.int .i64 x.2.1))]) (fun x=>[(29,.row TS 1 x.2.2.1 (Ab x.2.2.2))]) (fun x=>0<=x.1/\x.1<=l.length/\c.isState x.2.1=true/\x.2.2.1=x.2.2.2.isEmpty/\x.2.2.2.length<=5*x.1/\(x.2.2.2++(c.stream x.2.1 (l.drop x.1.toNat)).1,(c.stream x.2.1 (l.drop x.1.toNat)).2)=c.stream s l) (fun x=>(l.length-x.1).toNat) (?a2_0,s,?a2_2,[]) ?h02 ?he2 ?he22 ?hI2 ?step2
 case h02=>(simp -implicitDefEqProofs only[go_sem];rfl)
 case he2=>rfl
 case he22=>rfl
 case' step2=>(rintro⟨i,t,n2,acc⟩ hI;try dsimp only at hI)
 case' hI2=>try dsimp only
 ·simp[hs]
 ·obtain⟨hi0,hi1,ht,hn,ha,heq⟩:=hI
  by_cases hi:i<l.length
  ·have hiw:c.isWord (l[i.toNat]?.getD 0)=true:=hw _ (Dd (by omega))
   have hr:=AW.wrd_range c h ht hiw
   have hp5:(2:Int)^c.out.toNat<=32:=by
    have:c.out.toNat=1\/c.out.toNat=2\/c.out.toNat=3\/c.out.toNat=4\/c.out.toNat=5:=by omega
    rcases this with h|h|h|h|h<;>rw[h]<;>decide
   have hst:=AW.nxt_state h ht hiw
   have cs:=Pp c (c.wrd t (l[i.toNat]?.getD 0)) (by omega) (by omega)
   have hbl:=Iz c.out.toNat (c.wrd t (l[i.toNat]?.getD 0))
   have hdr:l.drop i.toNat=(l[i.toNat]?.getD 0)::l.drop (i+1).toNat:=by rw[FJ (xs:=l) (i:=i.toNat) (by omega),show (i+1).toNat=i.toNat+1 by omega]
   rw[hdr] at heq
   simp only[AW.stream] at heq
   have ht':=ht
   have hiw':=hiw
   simp only[AW.isState,AW.isWord,C1,decide_eq_true_eq] at ht' hiw'
   have hr1:=AW.ok_words h t.toNat (by omega)
   have hr2:=AW.ok_next h t.toNat (by omega)
   have hnc:((2^c.bits.toNat:Nat):Int)=2^c.bits.toNat:=by simp
   generalize hw0:l[i.toNat]?.getD 0=w at *
   generalize C5 c.out.toNat (c.wrd t w)=B at *
   have hBe:B.isEmpty=false:=by cases B with
    |nil=>simp at hbl;omega
    |cons _ _=>rfl
   (try (simp -implicitDefEqProofs only[go_sem,BU,A9,BT,Cl,c.nxt_eq,c.wrd_eq,hw0]));repeat' first|(with_reducible first|exact tI|refine aI ?_ ?_|intro _)|((first|with_reducible refine AK ?_ ?_<;>intro _|(with_reducible refine isCall ?_);first|refine AE cs ?_)<;>try (simp -implicitDefEqProofs only[go_sem,BU,A9,BT,Cl,c.nxt_eq,c.wrd_eq,hw0]))|simp (disch:=omega) only[Ae]|((with_reducible refine Bf ?_);refine⟨(_,_,_,_),rfl,?_,?_⟩)
   all_goals (try simp (disch:=omega) only[Ae] at *)
   all_goals first|omega|(simp<;>omega)|skip
   all_goals first|exact hst|(rw[c.nxt_eq,←heq];simp;done)|(simp;omega)|(subst hn;cases acc<;>cases B<;>simp_all;done)|skip
  ·have h0:l.drop i.toNat=[]:=List.drop_eq_nil_of_le (by omega)
   rw[h0] at heq
   simp only[AW.stream,List.append_nil] at heq
   (try (simp -implicitDefEqProofs only[go_sem]));repeat' first|(with_reducible first|exact tI|refine aI ?_ ?_|intro _)|((first|with_reducible refine AK ?_ ?_<;>intro _)<;>try (simp -implicitDefEqProofs only[go_sem]))|simp (disch:=omega) only[Ae]|((with_reducible refine Bf ?_);refine⟨(_,_,_,_),rfl,?_,?_⟩)
   all_goals first|omega|(simp<;>omega)|skip
   all_goals (rw[←heq];try simp[hn])
def rv (o:Option (List Int)):D:=match o with|some l=>.list l.isEmpty (Ab l)|none=>.list true []
def ry (o:Option (List Int)):D:=.bool o.isSome
abbrev sE:=List (Option (List Int))
def AW.tbl (c:AW) (bits:List Int) (K:Nat) (q:Nat):sE:=(List.range c.words.length).map fun(s:Nat)=>c.decP bits (K-q) (s:Int) (q:Int)
end
section
attribute [local congr] Bm A' BA Au Bn Az A1 A0 Ar Al Af Aa Aw Ag Ax BM BQ BO BP BN BR BG Aj Ay Ak BE BX Ai BK BL BF BH BJ BI BC BD A_ Bp BB Av Ah
attribute [local irreducible] IntKind.wrap A3 Option.getD and or
end
section
attribute [local congr] Bm A' BA Au Bn Az A1 A0 Ar Al Af Aa Aw Ag Ax BM BQ BO BP BN BR BG Aj Ay Ak BE BX Ai BK BL BF BH BJ BI BC BD A_ Bp BB Av Ah
attribute [local irreducible] IntKind.wrap A3 Option.getD and or
def nV (r:Bool×List Int):Bool×List Int:=(false,r.2)
def Fh (c:AW):AW:=⟨c.bits,c.out,c.least,c.most,c.words.isEmpty,c.words.map nV,c.next.isEmpty,c.next.map nV⟩
theorem i9 (l:Rows) (i:Nat):((l.map nV)[i]?.getD default).2=(l[i]?.getD default).2:=by
 rw[List.getElem?_map];cases l[i]?<;>simp[nV]
theorem Zb (b o l m:Int) (wn nn wn' nn':Bool) (w w' n n':Rows) (hw:w'.length=w.length) (hn:n'.length=n.length) :
  AW.head ⟨b,o,l,m,wn',w',nn',n'⟩=AW.head ⟨b,o,l,m,wn,w,nn,n⟩:=by
 simp only[AW.head];rw[hw,hn]
theorem mP (c:AW):(Fh c).ok=c.ok:=by
 have h:∀(n:Nat) (hi:Int) (l:Rows),(l.map nV).all (OK n hi)=l.all (OK n hi):=by
  intro n hi l;rw[List.all_map];rfl
 have hl:∀l:Rows,(l.map nV).length=l.length:=fun l=>List.length_map ..
 have hh:(Fh c).head=c.head:=Zb _ _ _ _ _ _ _ _ _ _ _ _ (hl c.words) (hl c.next)
 simp only[AW.ok,hh];simp only[Fh,h,hl]
theorem i_ (c:AW):(Fh c).wrd=c.wrd:=by
 funext s w;simp only[AW.wrd,qy,Fh,i9]
theorem jF (c:AW):(Fh c).nxt=c.nxt:=by
 funext s w;simp only[AW.nxt,qy,Fh,i9]
theorem Qp (c:AW):∀(l:List Int) (s:Int),(Fh c).stream s l=c.stream s l
 |[],s=>rfl
 |w::l,s=>by simp only[AW.stream,i_,jF,Qp c l];rfl
end
section
attribute [local congr] Bm A' BA Au Bn Az A1 A0 Ar Al Af Aa Aw Ag Ax BM BQ BO BP BN BR BG Aj Ay Ak BE BX Ai BK BL BF BH BJ BI BC BD A_ Bp BB Av Ah
attribute [local irreducible] IntKind.wrap A3 Option.getD and or
theorem FU (l:Rows):(DE l).length=l.length:=by simp[DE]
theorem Eh (l:Rows):C6 1 (DE l)=True:=WV fun _=>rfl
def bM (l:Rows) (n:Nat):Rows:=(l.take n).map nV
theorem Rc {l:Rows}{n:Nat}(h:n<=l.length):(bM l n).length=n:=by simp[bM];omega
theorem X' {l:Rows}{n:Nat}(h:n<l.length):DE (bM l n)++[.list false (Ab (l[n]?.getD default).2)]=DE (bM l (n+1)):=by
 rw[bM,bM,List.take_add_one,List.getElem?_eq_getElem h]
 rw[Option.getD_some,List.map_append]
 simp only[DE,List.map_append,Option.toList,List.map_cons,List.map_nil];rfl
theorem YA (l:Rows):bM l l.length=l.map nV:=by simp[bM]
theorem jH (c:AW):Fz (Fh c)=.agg [.int .i64 c.bits,.int .i64 c.out,.int .i64 c.least,.int .i64 c.most,.list c.words.isEmpty (DE (bM c.words c.words.length)),.list c.next.isEmpty (DE (bM c.next c.next.length))]:=by
 rw[YA,YA];rfl
theorem bH {c:AW}(h:c.far=false):(c.words.length<=20/\∀j:Nat,j<c.words.length->(c.words[j]?.getD default).2.length<=20)/\(c.next.length<=20/\∀j:Nat,j<c.next.length->(c.next[j]?.getD default).2.length<=20):=by
 simp only[AW.far,Bool.or_eq_false_iff,decide_eq_false_iff_not] at h
 obtain⟨⟨⟨h1,h2⟩,h3⟩,h4⟩:=h
 rw[Rg] at h3 h4
 refine⟨⟨by omega,fun j hj=>?_⟩,by omega,fun j hj=>?_⟩
 ·have:=h3 j hj;rw[decide_eq_false_iff_not] at this;omega
 ·have:=h4 j hj;rw[decide_eq_false_iff_not] at this;omega
theorem SE (c:AW) (hf:c.far=false):CA E0 PV [Fz c] (Fz (Fh c)):=by
 rw[jH]
 refine AL Sx An (by simp) fun hwf=>?_
 simp only[DY,Cv,Cu,Ck,Dq,Dp,FD,Dn,Bj,Bt,Bu,Cy,B6,List.length_map,B4,true_and,and_true,BU,A9,BT] at hwf
 have hfw:=(bH hf).1
 have hfn:=(bH hf).2
 rw[AR];unfold M3
 (try (simp -implicitDefEqProofs only[go_sem,BU,A9]));repeat' first|(with_reducible first|exact tI|refine aI ?_ ?_|intro _)|((first|with_reducible refine AK ?_ ?_<;>intro _)<;>try (simp -implicitDefEqProofs only[go_sem,BU,A9]))|simp (disch:=omega) only[Ae]|((with_reducible refine Ao ?_);refine⟨(_,_,_),rfl,?_,?_⟩)
 refine AX (α:=Int×Bool×(List D)) (l0:=?l1) (m0:=?m1) (fun x=>[(4,.d (.int .i64 x.1))]) (fun x=>[(26,.row 29 1 x.2.1 x.2.2)]) (fun x=>0<=x.1/\x.1<=c.words.length/\x.2.1=decide (x.1=0)/\x.2.2=DE (bM c.words x.1.toNat)) (fun x=>(c.words.length-x.1).toNat) (?a1_0,?a1_1,[]) ?h01 ?he1 ?he21 ?hI1 ?step1
 case h01=>(simp -implicitDefEqProofs only[go_sem,BU,A9,BT];rfl)
 case he1=>rfl
 case he21=>rfl
 case' step1=>(rintro⟨i,nl,L⟩ hI;try dsimp only at hI)
 case' hI1=>try dsimp only
 ·simp;rfl
 ·obtain⟨h1,h2,h3,h4⟩:=hI
  change nl=decide (i=0) at h3;change L=DE (bM c.words i.toNat) at h4
  subst h3;subst h4
  by_cases hi:i<c.words.length
  ·have hl:=Rc (l:=c.words) (n:=i.toNat) (by omega)
   have hs:=X' (l:=c.words) (n:=i.toNat) (by omega)
   have hr:=hfw.2 i.toNat (by omega)
   have h1':(i+1).toNat=i.toNat+1:=by omega
   (try (simp -implicitDefEqProofs only[go_sem,FU,Eh,Cl,hl]));repeat' first|(with_reducible first|exact tI|refine aI ?_ ?_|intro _)|((first|with_reducible refine AK ?_ ?_<;>intro _)<;>try (simp -implicitDefEqProofs only[go_sem,FU,Eh,Cl,hl]))|simp (disch:=omega) only[Ae]|((with_reducible refine Ao ?_);refine⟨(_,_,_),rfl,?_,?_⟩)
   all_goals first|omega|(simp<;>omega)|skip
   all_goals first|(exfalso;omega)|(simp;omega)|(rw[h1',hs])|skip
  ·have he:i.toNat=c.words.length:=by omega
   rw[he]
   have hl:=Rc (l:=c.words) (n:=c.words.length) (by omega)
   have hz:decide (i=0)=c.words.isEmpty:=by rw[Bool.eq_iff_iff];simp only[decide_eq_true_eq,List.isEmpty_iff,←List.length_eq_zero_iff];omega
   rw[hz]
   (try (simp -implicitDefEqProofs only[go_sem,FU,Eh,hl]));repeat' first|(with_reducible first|exact tI|refine aI ?_ ?_|intro _)|((first|with_reducible refine AK ?_ ?_<;>intro _)<;>try (simp -implicitDefEqProofs only[go_sem,FU,Eh,hl]))|simp (disch:=omega) only[Ae]|((with_reducible refine Ao ?_);refine⟨(_,_,_),rfl,?_,?_⟩)
   all_goals first|omega|(simp<;>omega)|skip
   refine AX (α:=Int×Bool×(List D)) (l0:=?l2) (m0:=?m2) (fun x=>[(5,.d (.int .i64 x.1))]) (fun x=>[(45,.row 29 1 x.2.1 x.2.2)]) (fun x=>0<=x.1/\x.1<=c.next.length/\x.2.1=decide (x.1=0)/\x.2.2=DE (bM c.next x.1.toNat)) (fun x=>(c.next.length-x.1).toNat) (?a2_0,?a2_1,[]) ?h02 ?he2 ?he22 ?hI2 ?step2
   case h02=>(simp -implicitDefEqProofs only[go_sem,BU,A9,BT];rfl)
   case he2=>rfl
   case he22=>rfl
   case' step2=>(rintro⟨k,nl2,L2⟩ hI2;try dsimp only at hI2)
   case' hI2=>try dsimp only
   ·simp;rfl
   ·obtain⟨g1,g2,g3,g4⟩:=hI2
    change nl2=decide (k=0) at g3;change L2=DE (bM c.next k.toNat) at g4
    subst g3;subst g4
    by_cases hk:k<c.next.length
    ·have gl:=Rc (l:=c.next) (n:=k.toNat) (by omega)
     have gs:=X' (l:=c.next) (n:=k.toNat) (by omega)
     have gr:=hfn.2 k.toNat (by omega)
     have g1':(k+1).toNat=k.toNat+1:=by omega
     (try (simp -implicitDefEqProofs only[go_sem,FU,Eh,Cl,gl]));repeat' first|(with_reducible first|exact tI|refine aI ?_ ?_|intro _)|((first|with_reducible refine AK ?_ ?_<;>intro _)<;>try (simp -implicitDefEqProofs only[go_sem,FU,Eh,Cl,gl]))|simp (disch:=omega) only[Ae]|((with_reducible refine Ao ?_);refine⟨(_,_,_),rfl,?_,?_⟩)
     all_goals first|omega|(simp<;>omega)|skip
     all_goals first|(exfalso;omega)|(simp;omega)|(rw[g1',gs])|skip
    ·have ge:k.toNat=c.next.length:=by omega
     rw[ge]
     have gl:=Rc (l:=c.next) (n:=c.next.length) (by omega)
     have gz:decide (k=0)=c.next.isEmpty:=by rw[Bool.eq_iff_iff];simp only[decide_eq_true_eq,List.isEmpty_iff,←List.length_eq_zero_iff];omega
     rw[gz]
     (try (simp -implicitDefEqProofs only[go_sem,FU,Eh,hl,gl]));repeat' first|(with_reducible first|exact tI|refine aI ?_ ?_|intro _)|((first|with_reducible refine AK ?_ ?_<;>intro _)<;>try (simp -implicitDefEqProofs only[go_sem,FU,Eh,hl,gl]))|simp (disch:=omega) only[Ae]|((with_reducible refine Ao ?_);refine⟨(_,_,_),rfl,?_,?_⟩)
     all_goals first|omega|(simp<;>omega)|skip
     rfl
end
section
def GS (c:AW):List D:=(List.range 16).map fun s=>.list false (Ab (c.stm s))
theorem Rt (c:AW):(GS c).length=16:=by simp[GS]
theorem Ru (c:AW) {s:Nat}(h:s<16):(GS c)[s]?=some (.list false (Ab (c.stm s))):=by simp[GS,h]
theorem T9 (c:AW):(GS c).take 16=GS c:=List.take_of_length_le (by rw[Rt];omega)
def T0 (c:AY) (r:List D):List D:=.int .i64 c.code.bits :: .int .i64 c.code.out :: .int .i64 c.code.least :: .int .i64 c.code.most :: .list c.code.nw (DE c.code.words) :: .list c.code.nn (DE c.code.next) :: .int .i64 c.L :: .int .i64 c.P :: .int .i64 c.Q :: .list c.nm (Ab c.mark) :: .int .i64 c.seed :: .int .i64 c.errs::r
theorem BZ (c:AY) (r:List D):T0 c r=.int .i64 c.code.bits :: .int .i64 c.code.out :: .int .i64 c.code.least :: .int .i64 c.code.most :: .list c.code.nw (DE c.code.words) :: .list c.code.nn (DE c.code.next) :: .int .i64 c.L :: .int .i64 c.P :: .int .i64 c.Q :: .list c.nm (Ab c.mark) :: .int .i64 c.seed :: .int .i64 c.errs::r:=rfl
theorem SX (a b c d e f g h i j k l:D) (r:List D) (n:Nat):(a::b::c::d::e::f::g::h::i::j::k::l::r)[12+n]?=r[n]?:=by rw[Nat.add_comm];rfl
theorem aV (x:Int):(some x).getD 0=x:=rfl
theorem qm:∀n:Fin 16,A3 .and .i64 (n.val:Int) 3=(n.val:Int)%4:=by decide +kernel
theorem jk {b k:Nat}(s:Int) (h:k<4/b):(I5 b s)[k]?.getD 0=s/2^((4/b-1-k)*b)%2^b:=by simp[I5,h]
theorem eY {b a:Int}{k s:Nat}(hb:b=1\/b=2) (hk:k<4/b.toNat) (ha:a=4-b*((k:Int)+1)) (hs:s<16) :
  A3 .and .i64 ((s:Int)/2^a.toNat) (IntKind.i64.wrap (2^b.toNat-1))=(I5 b.toNat (s:Int))[k]?.getD 0:=by
 rw[jk _ hk]
 rcases hb with rfl|rfl
 ·have e:a.toNat=(4/(1:Int).toNat-1-k)*(1:Int).toNat:=by simp;omega
  rw[←e,show IntKind.i64.wrap (2^(1:Int).toNat-1)=1 from AZ 1 (by omega),WD];rfl
 ·have e:a.toNat=(4/(2:Int).toNat-1-k)*(2:Int).toNat:=by simp at hk ⊢;omega
  rw[←e,show IntKind.i64.wrap (2^(2:Int).toNat-1)=3 from AZ 3 (by omega)]
  have h1:(s:Int)/2^a.toNat=((s/2^a.toNat:Nat):Int):=by push_cast;rfl
  have h2:s/2^a.toNat<16:=Nat.lt_of_le_of_lt (Nat.div_le_self _ _) hs
  rw[h1]
  exact qm ⟨_,h2⟩
theorem nP (n:Int):n.fdiv (2^min 1 64)=n/2:=by rw[VE];rfl
theorem ne {L P Q:Int}(h:C2 L P Q=true):2<=L/\L<=15/\1<=P/\P<=8/\P<L/\1<=Q/\Q<=8:=by
 obtain⟨l,p,q,rfl,rfl,rfl,b1,b2,b3,b4,b5,b6,b7,hc⟩:=IB h
 omega
theorem UN {L P Q:Int}(h:C2 L P Q=true):2<=Q*L/\Q*L<=120:=by
 obtain⟨l,p,q,rfl,rfl,rfl,b1,b2,b3,b4,b5,b6,b7,hc⟩:=IB h
 have h1:q*l<=8*15:=Nat.mul_le_mul b7 b2
 have h2:1*2<=q*l:=Nat.mul_le_mul b6 b1
 have h3:(q:Int)*(l:Int)=((q*l:Nat):Int):=by push_cast;rfl
 rw[h3];omega
attribute [local congr] Bm A' BA Au Bn Az A1 A0 Ar Al Af Aa Aw Ag Ax BM BQ BO BP BN BR BG Aj Ay Ak BE BX Ai BK BL BF BH BJ BI BC BD A_ Bp BB Av Ah
attribute [local irreducible] IntKind.wrap A3 Option.getD and or
theorem I' (n lo hi:Int):CA E0 Lv [.int .i64 n,.int .i64 lo,.int .i64 hi] (.bool (C1 n lo hi)):=by
 refine AL P2 An (by simp) fun hwf=>?_
 rw[AR];unfold KK
 (try (simp -implicitDefEqProofs only[go_sem]));repeat' first|(with_reducible first|exact tI|refine aI ?_ ?_|intro _)|((first|with_reducible refine AK ?_ ?_<;>intro _)<;>try (simp -implicitDefEqProofs only[go_sem]))|simp (disch:=omega) only[Ae]
 all_goals (simp only[C1];congr 1;symm;first|(rw[decide_eq_true_eq];omega)|(rw[decide_eq_false_iff_not];omega))
theorem HK (c:AY) (r:List D) (h:C2 c.L c.P c.Q=true):CA E0 E9 [.ptr (T0 c r)] (.int .i64 (c.Q*c.L)):=by
 have hb:=UN h
 have hw:IntKind.i64.wrap (c.Q*c.L)=c.Q*c.L:=AZ _ (by omega)
 refine AL HR An (by simp) fun hwf=>?_
 rw[AR];unfold Em
 (try (simp -implicitDefEqProofs only[go_sem,BZ,hw]));repeat' first|(with_reducible first|exact tI|refine aI ?_ ?_|intro _)|((first|with_reducible refine AK ?_ ?_<;>intro _)<;>try (simp -implicitDefEqProofs only[go_sem,BZ,hw]))|simp (disch:=omega) only[Ae]
 all_goals first|rfl|omega|skip
theorem GV (c:AY):CA E0 F_ [.ptr (T0 c (GS c.code))] (.int .i64 (c.code.sz:Nat)):=by
 have h0:(GS c.code)[0]?=some (.list false (Ab (c.code.stm 0))):=Ru _ (by omega)
 have hl:=Jx c.code 0
 refine AL Iu An (by simp) fun hwf=>?_
 rw[AR];unfold Fb
 (try (simp -implicitDefEqProofs only[go_sem,BZ,h0,hl]));repeat' first|(with_reducible first|exact tI|refine aI ?_ ?_|intro _)|((first|with_reducible refine AK ?_ ?_<;>intro _)<;>try (simp -implicitDefEqProofs only[go_sem,BZ,h0,hl]))|simp (disch:=omega) only[Ae]
 all_goals first|rfl|omega|skip
theorem RM {c:AY}(h:C2 c.L c.P c.Q=true):c.Q*c.L=((c.syms:Nat):Int):=by have:=UN h;unfold AY.syms;omega
theorem Ez (c:AY) (h:C2 c.L c.P c.Q=true) (hc:c.code.ok=true):CA E0 GB [.ptr (T0 c (GS c.code))] (.int .i64 ((c.syms*c.code.sz:Nat):Int)):=by
 have c1:=HK c (GS c.code) h
 have c2:=GV c
 have hb:=UN h
 have he:=RM h
 have hz:=Ha hc
 rw[he] at c1 hb
 have hm:c.syms*c.code.sz<=120*20:=Nat.mul_le_mul (by omega) hz.2
 have hw:IntKind.i64.wrap ((c.syms:Int)*(c.code.sz:Int))=((c.syms*c.code.sz:Nat):Int):=by rw[show (c.syms:Int)*(c.code.sz:Int)=((c.syms*c.code.sz:Nat):Int) by push_cast;rfl];exact AZ _ (by omega)
 refine AL Iw An (by simp) fun hwf=>?_
 rw[AR];unfold Fd
 (try (simp -implicitDefEqProofs only[go_sem,hw]));repeat' first|(with_reducible first|exact tI|refine aI ?_ ?_|intro _)|((first|with_reducible refine AK ?_ ?_<;>intro _|(with_reducible refine isCall ?_);first|refine AE c1 ?_|refine AE c2 ?_)<;>try (simp -implicitDefEqProofs only[go_sem,hw]))|simp (disch:=omega) only[Ae]
 all_goals first|rfl|omega|skip
theorem K1 (n:Int):CA E0 FC [.int .i64 n] (.bool (!C1 n 0 1)):=by
 refine AL K0 An (by simp) fun hwf=>?_
 rw[AR];unfold Gh
 (try (simp -implicitDefEqProofs only[go_sem,nP]));repeat' first|(with_reducible first|exact tI|refine aI ?_ ?_|intro _)|((first|with_reducible refine AK ?_ ?_<;>intro _)<;>try (simp -implicitDefEqProofs only[go_sem,nP]))|simp (disch:=omega) only[Ae]
 all_goals (simp only[C1];congr 1;symm;first|(rw[Bool.not_eq_false',decide_eq_true_eq];omega)|(rw[Bool.not_eq_true',decide_eq_false_iff_not];omega))
theorem Mo (nl:Bool) (xs:List Int):CA E0 Ib [.list nl (Ab xs)] (.bool (Ps xs)):=by
 have c1:=Cf nl xs FC [] (fun n=>!C1 n 0 1) (by kernel_rfl) rfl (fun x _=>K1 x)
 refine AL Mi An (by simp) fun hwf=>?_
 simp only[DY,Cv,Cu,Ck,Dq,Dp,FD,Dn,Bj,Bt,Bu,Cy,B6,List.length_map,B4,true_and,and_true] at hwf
 rw[AR];unfold Hl
 have e:(!xs.any fun n=>!C1 n 0 1)=A8 xs:=by simp[A8,List.all_eq_not_any_not]
 (try (simp -implicitDefEqProofs only[go_sem]));repeat' first|(with_reducible first|exact tI|refine aI ?_ ?_|intro _)|((first|with_reducible refine AK ?_ ?_<;>intro _|(with_reducible refine isCall ?_);first|refine AE c1 ?_)<;>try (simp -implicitDefEqProofs only[go_sem]))|simp (disch:=omega) only[Ae]
 all_goals (unfold Ps;rw[←e];first|rfl|(congr 1;symm;simp_all;done)|(congr 1;symm;simp_all;omega)|skip)
theorem Ec (c:AY) (h:C2 c.L c.P c.Q=true):CA E0 Kk [DX c] (.int .i64 (c.Q*c.L)):=by
 have hb:=UN h
 have hw:IntKind.i64.wrap (c.Q*c.L)=c.Q*c.L:=AZ _ (by omega)
 refine AL Ok An (by simp) fun hwf=>?_
 rw[AR];unfold JB
 (try (simp -implicitDefEqProofs only[go_sem,AP,AO,hw]));repeat' first|(with_reducible first|exact tI|refine aI ?_ ?_|intro _)|((first|with_reducible refine AK ?_ ?_<;>intro _)<;>try (simp -implicitDefEqProofs only[go_sem,AP,AO,hw]))|simp (disch:=omega) only[Ae]
 all_goals first|rfl|omega|skip
theorem LC (c:AY) (h:c.code.ok=true):CA E0 PK [DX c] (.int .i64 (c.code.sz:Nat)):=by
 have h1:=AW.ok_head h
 have hz:=Ha h
 have e:IntKind.i64.wrap (IntKind.i64.wrap ((4:Int).tdiv c.code.bits)*c.code.out)=((c.code.sz:Nat):Int):=by
  have h2:c.code.bits=1\/c.code.bits=2:=by omega
  unfold AW.sz
  rcases h2 with h2|h2
  ·rw[h2,show (4:Int).tdiv 1=4 from rfl,AZ 4 (by omega),AZ _ (by omega),show (1:Int).toNat=1 from rfl];omega
  ·rw[h2,show (4:Int).tdiv 2=2 from rfl,AZ 2 (by omega),AZ _ (by omega),show (2:Int).toNat=2 from rfl];omega
 refine AL Sn An (by simp) fun hwf=>?_
 rw[AR];unfold Mt
 (try (simp -implicitDefEqProofs only[go_sem,AP,AO,e]));repeat' first|(with_reducible first|exact tI|refine aI ?_ ?_|intro _)|((first|with_reducible refine AK ?_ ?_<;>intro _)<;>try (simp -implicitDefEqProofs only[go_sem,AP,AO,e]))|simp (disch:=omega) only[Ae]
 all_goals first|rfl|omega|skip
theorem KG (c:AY) (h:C2 c.L c.P c.Q=true) (hc:c.code.ok=true) (hm:c.mark.length<=1000):CA E0 ND [DX c] (.int .i64 (c.tot:Nat)):=by
 have c1:=Ec c h
 have c2:=LC c hc
 have hb:=UN h
 have he:=RM h
 have hz:=Ha hc
 rw[he] at c1 hb
 have hmm:c.syms*c.code.sz<=120*20:=Nat.mul_le_mul (by omega) hz.2
 have hw:IntKind.i64.wrap ((c.syms:Int)*(c.code.sz:Int))=((c.syms*c.code.sz:Nat):Int):=by rw[show (c.syms:Int)*(c.code.sz:Int)=((c.syms*c.code.sz:Nat):Int) by push_cast;rfl];exact AZ _ (by omega)
 have hw2:IntKind.i64.wrap ((c.mark.length:Int)+((c.syms*c.code.sz:Nat):Int))=((c.tot:Nat):Int):=by rw[AZ _ (by omega)];unfold AY.tot;omega
 refine AL Q7 An (by simp) fun hwf=>?_
 rw[AR];unfold LG
 (try (simp -implicitDefEqProofs only[go_sem,AP,AO,hw,hw2]));repeat' first|(with_reducible first|exact tI|refine aI ?_ ?_|intro _)|((first|with_reducible refine AK ?_ ?_<;>intro _|(with_reducible refine isCall ?_);first|refine AE c1 ?_|refine AE c2 ?_)<;>try (simp -implicitDefEqProofs only[go_sem,AP,AO,hw,hw2]))|simp (disch:=omega) only[Ae]
 all_goals first|rfl|omega|skip
theorem JA (s:Nat) (h:s<16):CA E0 Lx [.int .i64 (s:Int)] (.list false (Ab (I5 1 s))):=by
 have e0:∀x:Int,0<=x->x.tmod 2=x%2:=fun x hx=>Int.tmod_eq_emod_of_nonneg hx
 have e1:∀y:Int,(s:Int).tdiv y=(s:Int)/y:=fun y=>Int.tdiv_eq_ediv_of_nonneg (by omega)
 have e:I5 1 (s:Int)=[(s:Int).tdiv 8,((s:Int).tdiv 4).tmod 2,((s:Int).tdiv 2).tmod 2,(s:Int).tmod 2]:=by
  rw[e1,e1,e1,e0 _ (by omega),e0 _ (by omega),e0 _ (by omega)]
  show [(s:Int)/8%2,(s:Int)/4%2,(s:Int)/2%2,(s:Int)/1%2]=_
  rw[show (s:Int)/8%2=(s:Int)/8 by omega,Int.ediv_one]
 have w8:IntKind.i64.wrap ((s:Int).tdiv 8)=(s:Int).tdiv 8:=AZ _ (by rw[e1];omega)
 have w4:IntKind.i64.wrap ((s:Int).tdiv 4)=(s:Int).tdiv 4:=AZ _ (by rw[e1];omega)
 have w2:IntKind.i64.wrap ((s:Int).tdiv 2)=(s:Int).tdiv 2:=AZ _ (by rw[e1];omega)
 refine AL P4 An (by simp) fun hwf=>?_
 rw[AR];unfold KM
 (try (simp -implicitDefEqProofs only[go_sem,e,w8,w4,w2]));repeat' first|(with_reducible first|exact tI|refine aI ?_ ?_|intro _)|((first|with_reducible refine AK ?_ ?_<;>intro _)<;>try (simp -implicitDefEqProofs only[go_sem,e,w8,w4,w2]))|simp (disch:=omega) only[Ae]
 all_goals first|rfl|omega|skip
theorem Fe {α:Type}{l:List α}(h:l≠[]):l.isEmpty=false:=by cases l with
 |nil=>exact absurd rfl h
 |cons _ _=>rfl
theorem Ex (c:AY) (hc:c.code.ok=true) (s:Nat) (h:s<16):CA E0 Ly [DX c,.int .i64 (s:Int)] (.list false (Ab (c.code.stm s))):=by
 have c1:=JA s h
 have c2:=Po c.code hc 0 false (I5 c.code.bits.toNat s) (Rj hc) (Rk hc s) (by rw[Fn];rcases Rf hc with h1|h1<;>rw[h1]<;>omega)
 have he:=Fe (U2 hc s)
 unfold AW.stm at he ⊢
 rw[he] at c2
 have h1:=AW.ok_head hc
 have hw:I5 1 (s:Int)=[(s:Int)/8%2,(s:Int)/4%2,(s:Int)/2%2,(s:Int)/1%2]:=rfl
 refine AL P5 An (by simp) fun hwf=>?_
 rw[AR];unfold KN
 by_cases hb:c.code.bits=2
 ·have h2:I5 c.code.bits.toNat (s:Int)=[2*((s:Int)/8%2)+(s:Int)/4%2,2*((s:Int)/2%2)+(s:Int)/1%2]:=by
   rw[hb]
   show [(s:Int)/4%4,(s:Int)/1%4]=_
   congr 1
   ·omega
   ·congr 1;omega
  rw[h2] at c2 ⊢
  rw[hw] at c1
  have wa:IntKind.i64.wrap (2*((s:Int)/8%2))=2*((s:Int)/8%2):=AZ _ (by omega)
  have wb:IntKind.i64.wrap (2*((s:Int)/2%2))=2*((s:Int)/2%2):=AZ _ (by omega)
  have wc:IntKind.i64.wrap (2*((s:Int)/8%2)+(s:Int)/4%2)=2*((s:Int)/8%2)+(s:Int)/4%2:=AZ _ (by omega)
  have wd:IntKind.i64.wrap (2*((s:Int)/2%2)+(s:Int)/1%2)=2*((s:Int)/2%2)+(s:Int)/1%2:=AZ _ (by omega)
  have hbT:=eq_true hb
  (try (simp -implicitDefEqProofs only[go_sem,AP,AO,hbT,aV,wa,wb,wc,wd]));repeat' first|(with_reducible first|exact tI|refine aI ?_ ?_|intro _)|((first|with_reducible refine AK ?_ ?_<;>intro _|(with_reducible refine isCall ?_);first|refine AE c1 ?_|refine AE c2 ?_)<;>try (simp -implicitDefEqProofs only[go_sem,AP,AO,hbT,aV,wa,wb,wc,wd]))|simp (disch:=omega) only[Ae]
  all_goals first|rfl|omega|skip
 ·have h2:c.code.bits.toNat=1:=by omega
  rw[h2] at c2 ⊢
  (try (simp -implicitDefEqProofs only[go_sem,AP,AO,hb]));repeat' first|(with_reducible first|exact tI|refine aI ?_ ?_|intro _)|((first|with_reducible refine AK ?_ ?_<;>intro _|(with_reducible refine isCall ?_);first|refine AE c1 ?_|refine AE c2 ?_)<;>try (simp -implicitDefEqProofs only[go_sem,AP,AO,hb]))|simp (disch:=omega) only[Ae]
  all_goals first|rfl|omega|skip
theorem Ej (n1 n2:Bool) (xs ys:List Int):CA E0 PL [.list n1 (Ab xs),.list n2 (Ab ys)] (.bool (decide (xs=ys))):=by
 refine AL So An (by simp) fun hwf=>?_
 simp only[DY,Cv,Cu,Ck,Dq,Dp,FD,Dn,Bj,Bt,Bu,Cy,B6,List.length_map,B4,true_and,and_true] at hwf
 rw[AR];unfold Mu
 simp -implicitDefEqProofs only[go_sem]
 refine AX (α:=Nat) (l0:=?l1) (m0:=?m1) (fun x=>[(5,.d (.int .i64 (x:Int)))]) (fun x=>[]) (fun x=>x<=xs.length/\x<=ys.length/\xs.take x=ys.take x) (fun x=>xs.length-x) 0 ?h01 ?he1 ?he21 ?hI1 ?step1
 case h01=>(simp -implicitDefEqProofs only[go_sem];rfl)
 case he1=>rfl
 case he21=>rfl
 case' step1=>(rintro i hI;try dsimp only at hI)
 case' hI1=>try dsimp only
 ·exact⟨Nat.zero_le _,Nat.zero_le _,rfl⟩
 ·obtain⟨i1,i2,i3⟩:=hI
  by_cases h:i<xs.length/\i<ys.length
  ·have h1:(i:Int)<(xs.length:Int):=by omega
   have h2:(i:Int)<(ys.length:Int):=by omega
   have hwi:IntKind.i64.wrap ((i:Int)+1)=((i+1:Nat):Int):=by rw[AZ _ (by omega)];omega
   have hx:xs.take (i+1)=xs.take i++[xs[i]?.getD 0]:=by rw[List.take_add_one];simp[h.1]
   have hy:ys.take (i+1)=ys.take i++[ys[i]?.getD 0]:=by rw[List.take_add_one];simp[h.2]
   (try (simp -implicitDefEqProofs only[go_sem,h1,h2,hwi,h.1,h.2]));repeat' first|(with_reducible first|exact tI|refine aI ?_ ?_|intro _)|((first|with_reducible refine AK ?_ ?_<;>intro _)<;>try (simp -implicitDefEqProofs only[go_sem,h1,h2,hwi,h.1,h.2]))|simp (disch:=omega) only[Ae]|((with_reducible refine Ad ?_);refine⟨_,rfl,?_,?_⟩)
   all_goals first|omega|(simp<;>omega)|skip
   ·rename_i he
    rw[hx,hy,i3,he]
   ·rename_i he
    congr 1;symm
    rw[decide_eq_false_iff_not]
    intro e;exact he (by rw[e])
  ·by_cases hl:xs.length=ys.length
   ·have hi1:¬(i:Int)<(xs.length:Int):=by omega
    have hi2:¬(i:Int)<(ys.length:Int):=by omega
    have:xs=ys:=by rw[←List.take_of_length_le (l:=xs) (i:=i) (by omega),i3,List.take_of_length_le (by omega)]
    (try (simp -implicitDefEqProofs only[go_sem,hi1,hi2,hl]));repeat' first|(with_reducible first|exact tI|refine aI ?_ ?_|intro _)|((first|with_reducible refine AK ?_ ?_<;>intro _)<;>try (simp -implicitDefEqProofs only[go_sem,hi1,hi2,hl]))|simp (disch:=omega) only[Ae]|((with_reducible refine Ad ?_);refine⟨_,rfl,?_,?_⟩)
    all_goals first|omega|(simp<;>omega)|skip
    all_goals first|(congr 1;symm;rw[decide_eq_true_eq];exact this)|skip
   ·have hx:xs≠ys:=fun e=>hl (by rw[e])
    have hd:decide (xs=ys)=false:=decide_eq_false hx
    rw[hd]
    (try (simp -implicitDefEqProofs only[go_sem]));repeat' first|(with_reducible first|exact tI|refine aI ?_ ?_|intro _)|((first|with_reducible refine AK ?_ ?_<;>intro _)<;>try (simp -implicitDefEqProofs only[go_sem]))|simp (disch:=omega) only[Ae]|((with_reducible refine Ad ?_);refine⟨_,rfl,?_,?_⟩)
    all_goals first|omega|(simp<;>omega)|skip
    all_goals skip
theorem PA (c:AW) (hc:c.ok=true) (s:Nat) (h:s<16):CA E0 Ks [Fz c,.int .i64 (s:Int)] (.list false (Ab (I5 c.bits.toNat s))):=by
 have h1:=AW.ok_head hc
 have hb:c.bits=1\/c.bits=2:=by omega
 have hn:c.bits.toNat=1\/c.bits.toNat=2:=Rf hc
 have hlen:=Fn c.bits.toNat (s:Int)
 refine AL O0 An (by simp) fun hwf=>?_
 rw[AR];unfold JO
 have w0:IntKind.i64.wrap (4-c.bits)=4-c.bits:=AZ _ (by omega)
 (try (simp -implicitDefEqProofs only[go_sem,BU,A9,w0]));repeat' first|(with_reducible first|exact tI|refine aI ?_ ?_|intro _)|((first|with_reducible refine AK ?_ ?_<;>intro _)<;>try (simp -implicitDefEqProofs only[go_sem,BU,A9,w0]))|simp (disch:=omega) only[Ae]|((with_reducible refine Ao ?_);refine⟨(_,_,_),rfl,?_,?_⟩)
 all_goals first|omega|(simp<;>omega)|skip
 refine AX (α:=Nat×Int×Bool) (l0:=?l2) (m0:=?m2) (fun x=>[(6,.d (.int .i64 x.2.1))]) (fun x=>[(26,.row 3 1 x.2.2 (Ab ((I5 c.bits.toNat (s:Int)).take x.1)))]) (fun x=>x.1<=4/c.bits.toNat/\x.2.1=4-c.bits*((x.1:Int)+1)/\x.2.2=decide (x.1=0)) (fun x=>4/c.bits.toNat-x.1) (0,(4-c.bits),true) ?h02 ?he2 ?he22 ?hI2 ?step2
 case h02=>(simp -implicitDefEqProofs only[go_sem,BU,A9];rfl)
 case he2=>rfl
 case he22=>rfl
 case' step2=>(rintro⟨k,a,nl⟩ hI;try dsimp only at hI)
 case' hI2=>try dsimp only
 ·exact⟨Nat.zero_le _,by rcases hb with h2|h2<;>rw[h2]<;>rfl,rfl⟩
 ·obtain⟨k1,k2,k3⟩:=hI
  change a=4-c.bits*((k:Int)+1) at k2
  change nl=decide (k=0) at k3
  by_cases hk:k<4/c.bits.toNat
  ·have ha:0<=a/\a<=3:=by
    rcases hb with h2|h2<;>rw[h2] at k2 hk<;>simp at hk<;>omega
   have h0:0<=a:=ha.1
   have e1:=eY hb hk k2 h
   obtain⟨x,hx⟩:∃x,(I5 c.bits.toNat (s:Int))[k]?.getD 0=x:=⟨_,rfl⟩
   have hst:(I5 c.bits.toNat (s:Int)).take (k+1)=(I5 c.bits.toNat (s:Int)).take k++[x]:=by
    rw[←hx,List.take_add_one,List.getElem?_eq_getElem (by rw[hlen];exact hk)];simp[Option.getD]
   rw[hx] at e1
   have hl4:((I5 c.bits.toNat (s:Int)).take k).length<=4:=by rw[List.length_take,hlen];have:=Nat.div_le_self 4 c.bits.toNat;omega
   have wn:IntKind.i64.wrap (a-c.bits)=a-c.bits:=AZ _ (by omega)
   (try (simp -implicitDefEqProofs only[go_sem,BU,A9,h0,wn,e1]));repeat' first|(with_reducible first|exact tI|refine aI ?_ ?_|intro _)|((first|with_reducible refine AK ?_ ?_<;>intro _)<;>try (simp -implicitDefEqProofs only[go_sem,BU,A9,h0,wn,e1]))|simp (disch:=omega) only[Ae]|((with_reducible refine Ao ?_);refine⟨(_,_,_),rfl,?_,?_⟩)
   all_goals first|omega|(simp<;>omega)|skip
   rw[e1,←hst]
   refine⟨(k+1,a-c.bits,false),rfl,⟨by show k+1<=_;omega,?_,?_⟩,by show 4/c.bits.toNat-(k+1)<_;omega⟩
   ·show a-c.bits=4-c.bits*(((k+1:Nat):Int)+1)
    rw[k2];push_cast;rw[Int.mul_add,Int.mul_add,Int.mul_add];omega
   ·show false=decide (k+1=0)
    exact(decide_eq_false (by omega)).symm
  ·have ha:¬0<=a:=by
    rcases hb with h2|h2<;>rw[h2] at k2 hk<;>simp at hk<;>omega
   have hk0:nl=false:=by
     rw[k3,decide_eq_false];have:2<=4/c.bits.toNat:=by rcases hn with h2|h2<;>rw[h2]<;>omega
     omega
   have htk:(I5 c.bits.toNat (s:Int)).take k=I5 c.bits.toNat (s:Int):=List.take_of_length_le (by rw[hlen];omega)
   rw[hk0,htk]
   (try (simp -implicitDefEqProofs only[go_sem,BU,A9,ha]));repeat' first|(with_reducible first|exact tI|refine aI ?_ ?_|intro _)|((first|with_reducible refine AK ?_ ?_<;>intro _)<;>try (simp -implicitDefEqProofs only[go_sem,BU,A9,ha]))|simp (disch:=omega) only[Ae]|((with_reducible refine Ao ?_);refine⟨(_,_,_),rfl,?_,?_⟩)
   all_goals first|omega|(simp<;>omega)|skip
   all_goals first|rfl|skip
end
end Go.Pw

/- A part of the proof. -/
import Derived.Test.YtibkjeolahobbaaGreatDoorPgChrPh2
import Derived.Test.YtibkjeolahobbaaGreatDoorPgChcJ
import Derived.Test.YtibkjeolahobbaaGreatDoorPgChcD
set_option linter.all false
section
open Go Go.Pw Go.Proofs
namespace Go.Pw
set_option maxRecDepth 100000
set_option maxHeartbeats 1600000
attribute [local congr] Bl A_ A' Ar Bm Ay A0 Az Aq Ak Ae Aa Av Af Aw BL BP BN BO BM BQ BF Ai Ax Aj BD BX Ah BJ BK BE BG BI BH BB BC A9 Bn BA Au Ag
attribute [local irreducible] IntKind.wrap A4 Option.getD and or
def AR.decW (c:AR) (rec:Int->Gx->Option (List Int)×Gx) (s:Int) (own:List Int):Nat->Int->Gx->Option (List Int)×Gx
 |0,_,m=>(none,m)
 |n+1,w,m =>
  if own=Cu c.out.toNat (c.wrd s w) then
   match (rec (c.nxt s w) m).1 with
   |some l=>(some (w::l),(rec (c.nxt s w) m).2)
   |none=>c.decW rec s own n (w+1) (rec (c.nxt s w) m).2
  else c.decW rec s own n (w+1) m
def AR.decM (c:AR) (bits:List Int):Nat->Int->Int->Gx->Option (List Int)×Gx
 |0,_,_,m=>(some [],m)
 |k+1,s,p,m =>
  if ey (s,p) m=none then
   match (c.decW (fun s' m'=>c.decM bits k s' (p+1) m') s ((bits.drop (p*c.out).toNat).take c.out.toNat) c.W 0 m).1 with
   |some l=>(some l,(c.decW (fun s' m'=>c.decM bits k s' (p+1) m') s ((bits.drop (p*c.out).toNat).take c.out.toNat) c.W 0 m).2)
   |none=>(none,(c.decW (fun s' m'=>c.decM bits k s' (p+1) m') s ((bits.drop (p*c.out).toNat).take c.out.toNat) c.W 0 m).2++[((s,p),1)])
  else (none,m)
def AR.Tab (c:AR) (m:Gx):Prop:=(m.map (·.1)).Nodup/\∀e,e∈m->e.2=1/\c.isState e.1.1=true/\0<=e.1.2/\e.1.2<=24
def qX (p:Int) (m m':Gx):Prop:=∀e,e∈m'->e∈m\/p<=e.1.2
def qd (o:Option (List Int)):D:=match o with|some l=>.list false (Am l)|none=>.list true []
theorem KF (n1 n2:Bool) (xs ys:List Int):CE E0 F2 [.list n1 (Am xs),.list n2 (Am ys)] (.bool (decide (xs=ys))):=by
 refine AP IZ Ap (by simp) fun hwf=>?_
 simp only[Du,DA,C_,Cy,EB,EA,Fk,D_,Bi,Bu,Bv,DC,CA,List.length_map,B7,true_and,and_true] at hwf
 rw[AW];unfold FU
 by_cases hl:xs.length=ys.length
 ·(try (simp -implicitDefEqProofs only[go_sem]));repeat' first|(with_reducible first|exact tI|refine aI ?_ ?_|intro _)|((first|with_reducible refine AO ?_ ?_<;>intro _)<;>try (simp -implicitDefEqProofs only[go_sem]))|simp (disch:=omega) only[Al]|((with_reducible refine A1 ?_);refine⟨_,rfl,?_,?_⟩)
  all_goals first|omega|(simp;done)|(simp;omega)|skip
  refine AY (α:=Int) (l0:=?l1) (m0:=?m1) (fun x=>[(13,.d (.int .i64 x))]) (fun x=>[]) (fun x=>0<=x/\x<=xs.length/\xs.take x.toNat=ys.take x.toNat) (fun x=>(xs.length-x).toNat) ?a1_0 ?h01 ?he1 ?he21 ?hI1 ?step1
  case h01=>(simp -implicitDefEqProofs only[go_sem];rfl)
  case he1=>rfl
  case he21=>rfl
  case' step1=>(rintro i hI;try dsimp only at hI)
  case' hI1=>try dsimp only
  ·simp
  ·obtain⟨hi0,hi1,heq⟩:=hI
   by_cases hi:i<xs.length
   ·have hx:=take_get (xs:=xs) (i:=i.toNat) (by omega)
    have hy:=take_get (xs:=ys) (i:=i.toNat) (by omega)
    have hii:(i+1).toNat=i.toNat+1:=by omega
    by_cases he:xs[i.toNat]?.getD 0=ys[i.toNat]?.getD 0
    ·(try (simp -implicitDefEqProofs only[go_sem]));repeat' first|(with_reducible first|exact tI|refine aI ?_ ?_|intro _)|((first|with_reducible refine AO ?_ ?_<;>intro _)<;>try (simp -implicitDefEqProofs only[go_sem]))|simp (disch:=omega) only[Al]|((with_reducible refine A1 ?_);refine⟨_,rfl,?_,?_⟩)
     all_goals (try simp (disch:=omega) only[Al] at *)
     all_goals first|omega|(simp;done)|(simp;omega)|skip
     all_goals (rw[hii,hx,hy,heq,he])
    ·have hne:¬xs=ys:=fun e=>he (by rw[e])
     (try (simp -implicitDefEqProofs only[go_sem]));repeat' first|(with_reducible first|exact tI|refine aI ?_ ?_|intro _)|((first|with_reducible refine AO ?_ ?_<;>intro _)<;>try (simp -implicitDefEqProofs only[go_sem]))|simp (disch:=omega) only[Al]|((with_reducible refine A1 ?_);refine⟨_,rfl,?_,?_⟩)
     all_goals first|omega|(simp;done)|(simp;omega)|skip
     all_goals first|(exfalso;omega)|simp[hne]
   ·have hxy:xs=ys:=by
     have h1:xs.take i.toNat=xs:=List.take_of_length_le (by omega)
     have h2:ys.take i.toNat=ys:=List.take_of_length_le (by omega)
     rw[←h1,heq,h2]
    (try (simp -implicitDefEqProofs only[go_sem]));repeat' first|(with_reducible first|exact tI|refine aI ?_ ?_|intro _)|((first|with_reducible refine AO ?_ ?_<;>intro _)<;>try (simp -implicitDefEqProofs only[go_sem]))|simp (disch:=omega) only[Al]|((with_reducible refine A1 ?_);refine⟨_,rfl,?_,?_⟩)
    all_goals first|omega|(simp;done)|(simp;omega)|skip
    all_goals simp[hxy]
 ·have hne:¬xs=ys:=fun e=>hl (by rw[e])
  (try (simp -implicitDefEqProofs only[go_sem]));repeat' first|(with_reducible first|exact tI|refine aI ?_ ?_|intro _)|((first|with_reducible refine AO ?_ ?_<;>intro _)<;>try (simp -implicitDefEqProofs only[go_sem]))|simp (disch:=omega) only[Al]|((with_reducible refine A1 ?_);refine⟨_,rfl,?_,?_⟩)
  all_goals first|(exfalso;omega)|simp[hne]
def AR.decR (c:AR) (s:Int) (bits:List Int):Option (List Int)×Int :=
 if !c.ok then (none,40) else if !c.isState s then (none,41)
 else if !(Ao bits && decide ((bits.length:Int).tmod c.out=0) && decide ((bits.length:Int)<=c.out*24)) then (none,1)
 else match (c.decM bits (bits.length/c.out.toNat) s 0 []).1 with
  |some l=>(some l,0)
  |none=>(none,3)
end Go.Pw
end
section
open Go Go.Pw Go.Proofs
namespace Go.Pw
def AR.apPW (c:AR) (rec:Int->List Int->Int) (s first:Int) (mark:List Int):Nat->Int->Int->Int
 |0,_,least=>least
 |k+1,w,least =>
  let bits:=(Cu c.out.toNat (c.wrd s w)).drop first.toNat
  let n:=min mark.length bits.length
  c.apPW rec s first mark k (w+1) (min least (B5 (mark.take n) bits+rec (c.nxt s w) (mark.drop n)))
def AR.apP (c:AR):Nat->Int->Int->List Int->Int
 |0,_,_,_=>0
 |n+1,s,first,mark=>if mark=[] then 0 else c.apPW (fun s' mk=>c.apP n s' 0 mk) s first mark c.W 0 16
def AR.MemGood (c:AR) (M:List Int) (m:Gx):Prop:=∀e,e∈m->0<=e.1.2/\e.1.2<=M.length/\e.2=c.apP e.1.2.toNat e.1.1 0 (M.drop (M.length-e.1.2.toNat))
theorem W4 {xs:List Int}(h:Ao xs=true) (i:Nat) {v:Int}(hv:Cw v 0 1=true):Ao (xs.set i v)=true:=by
 simp only[Ao,List.all_eq_true] at *
 intro x hx
 rcases List.mem_or_eq_of_mem_set hx with h1|rfl
 ·exact h x h1
 ·exact hv
end Go.Pw
end
section
open Go Go.Pw Go.Proofs
namespace Go.Pw
def AR.ownB (c:AR) (bits:List Int) (p:Int):List Int:=(bits.drop (p*c.out).toNat).take c.out.toNat
def AR.decPW (c:AR) (rec:Int->Option (List Int)) (s:Int) (own:List Int):Nat->Int->Option (List Int)
 |0,_=>none
 |n+1,w =>
  if own=Cu c.out.toNat (c.wrd s w) then
   match rec (c.nxt s w) with
   |some l=>some (w::l)
   |none=>c.decPW rec s own n (w+1)
  else c.decPW rec s own n (w+1)
def AR.decP (c:AR) (bits:List Int):Nat->Int->Int->Option (List Int)
 |0,_,_=>some []
 |k+1,s,p=>c.decPW (fun s'=>c.decP bits k s' (p+1)) s (c.ownB bits p) c.W 0
def AR.TabOk (c:AR) (bits:List Int) (K:Int) (m:Gx):Prop:=∀e,e∈m->c.decP bits (K-e.1.2).toNat e.1.1 e.1.2=none
end Go.Pw
end
section
open Go Go.Pw Go.Proofs
namespace Go.Pw
def AR.lev (c:AR):Nat->List Ip
 |0=>c.pairs0
 |j+1=>c.level (c.lev j) (decide ((j:Int)+1=1))
theorem AR.wrd_range (c:AR) (h:c.ok=true) {s w:Int}(hs:c.isState s=true) (hw:c.isWord w=true):0<=c.wrd s w/\c.wrd s w<=2^c.out.toNat-1:=by
 have hd:=AR.ok_head h
 have hWe:=AR.W_eq' c
 simp only[AR.isState,AR.isWord,Cw,decide_eq_true_eq] at hs hw
 obtain⟨h1,h2⟩:=AR.ok_words h s.toNat (by omega)
 refine h2 _ (D2 ?_)
 rw[h1]
 have:((2^c.bits.toNat:Nat):Int)=2^c.bits.toNat:=by simp
 omega
end Go.Pw
end
section
open Go Go.Pw Go.Proofs
namespace Go.Pw
set_option maxRecDepth 100000
set_option maxHeartbeats 1600000
attribute [local congr] Bl A_ A' Ar Bm Ay A0 Az Aq Ak Ae Aa Av Af Aw BL BP BN BO BM BQ BF Ai Ax Aj BD BX Ah BJ BK BE BG BI BH BB BC A9 Bn BA Au Ag
attribute [local irreducible] IntKind.wrap A4 Option.getD and or
theorem O4 (c:AR) (y0:Int) (h:0<=c.out/\c.out<=5) (hx:0<=y0/\y0<=1000):CE E0 Ld [Fw c,.int .i64 y0] (.list (Cu c.out.toNat y0).isEmpty (Am (Cu c.out.toNat y0))):=by
 refine AP PJ Ap (by simp) fun hwf=>?_
 rw[AW];unfold J6
 (try (simp -implicitDefEqProofs only[go_sem,A8,A5,A7]));repeat' first|(with_reducible first|exact tI|refine aI ?_ ?_|intro _)|((first|with_reducible refine AO ?_ ?_<;>intro _)<;>try (simp -implicitDefEqProofs only[go_sem,A8,A5,A7]))|simp (disch:=omega) only[Al]|((with_reducible refine BT ?_);refine⟨(_,_,_),rfl,?_,?_⟩)
 all_goals (try simp (disch:=omega) only[Al] at *)
 refine AY (α:=Int×Bool×(List Int)) (l0:=?l1) (m0:=?m1) (fun x=>[(6,.d (.int .i64 x.1))]) (fun x=>[(21,.row TW 1 x.2.1 (Am x.2.2))]) (fun x=>-1<=x.1/\x.1<c.out/\x.2.2.length+x.1=c.out-1/\x.2.1=x.2.2.isEmpty/\x.2.2++Cu (x.1+1).toNat y0=Cu c.out.toNat y0) (fun x=>(x.1+1).toNat) (?a1_0,?a1_1,[]) ?h01 ?he1 ?he21 ?hI1 ?step1
 case h01=>(simp -implicitDefEqProofs only[go_sem];rfl)
 case he1=>rfl
 case he21=>rfl
 case' step1=>(rintro⟨i,nl,acc⟩ hI;try dsimp only at hI)
 case' hI1=>try dsimp only
 ·simp;(try omega)
 ·obtain⟨h1,h2,h3,h4,h5⟩:=hI
  by_cases hi:0<=i
  ·have hb:Cu (i+1).toNat y0=(y0/2^i.toNat%2)::Cu i.toNat y0:=by rw[show (i+1).toNat=i.toNat+1 by omega,Cu]
   rw[hb] at h5
   have hu:IntKind.u64.wrap i=i:=lp _ (by omega)
   (try (simp -implicitDefEqProofs only[go_sem,hu]));repeat' first|(with_reducible first|exact tI|refine aI ?_ ?_|intro _)|((first|with_reducible refine AO ?_ ?_<;>intro _)<;>try (simp -implicitDefEqProofs only[go_sem,hu]))|simp (disch:=omega) only[Al]|((with_reducible refine BT ?_);refine⟨(_,_,_),rfl,?_,?_⟩)
   all_goals (try simp (disch:=omega) only[Al] at *)
   all_goals first|omega|(simp;done)|(simp;omega)|skip
   all_goals (rw[←h5,show (i-1+1).toNat=i.toNat by omega];simp)
  ·have h0:(i+1).toNat=0:=by omega
   rw[h0,Cu,List.append_nil] at h5
   (try (simp -implicitDefEqProofs only[go_sem]));repeat' first|(with_reducible first|exact tI|refine aI ?_ ?_|intro _)|((first|with_reducible refine AO ?_ ?_<;>intro _)<;>try (simp -implicitDefEqProofs only[go_sem]))|simp (disch:=omega) only[Al]|((with_reducible refine BT ?_);refine⟨(_,_,_),rfl,?_,?_⟩)
   all_goals first|omega|(simp;done)|(simp;omega)|skip
   all_goals (rw[←h5,h4])
theorem O3 (c:AR) (h:c.ok=true) (s:Int) (nl:Bool) (l:List Int) (hs:c.isState s=true) (hw:∀w,w∈l->c.isWord w=true) (hl:l.length<=24) :
  CE E0 Lc [Fw c,.int .i64 s,.list nl (Am l)] (.tup [.list (c.stream s l).1.isEmpty (Am (c.stream s l).1),.int .i64 (c.stream s l).2]):=by
 refine AP PI Ap (by simp) fun hwf=>?_
 have hd:=AR.ok_head h
 rw[AW];unfold J5
 (try (simp -implicitDefEqProofs only[go_sem,A8,A5,A7]));repeat' first|(with_reducible first|exact tI|refine aI ?_ ?_|intro _)|((first|with_reducible refine AO ?_ ?_<;>intro _)<;>try (simp -implicitDefEqProofs only[go_sem,A8,A5,A7]))|simp (disch:=omega) only[Al]|((with_reducible refine Cc ?_);refine⟨(_,_,_,_),rfl,?_,?_⟩)
 refine AY (α:=Int×Int×Bool×(List Int)) (l0:=?l2) (m0:=?m2) (fun x=>[(8,.d (.int .i64 x.1)),(1,.d (.int .i64 x.2.1))]) (fun x=>[(29,.row TW 1 x.2.2.1 (Am x.2.2.2))]) (fun x=>0<=x.1/\x.1<=l.length/\c.isState x.2.1=true/\x.2.2.1=x.2.2.2.isEmpty/\x.2.2.2.length<=5*x.1/\(x.2.2.2++(c.stream x.2.1 (l.drop x.1.toNat)).1,(c.stream x.2.1 (l.drop x.1.toNat)).2)=c.stream s l) (fun x=>(l.length-x.1).toNat) (?a2_0,s,?a2_2,[]) ?h02 ?he2 ?he22 ?hI2 ?step2
 case h02=>(simp -implicitDefEqProofs only[go_sem];rfl)
 case he2=>rfl
 case he22=>rfl
 case' step2=>(rintro⟨i,t,n2,acc⟩ hI;try dsimp only at hI)
 case' hI2=>try dsimp only
 ·simp[hs]
 ·obtain⟨hi0,hi1,ht,hn,ha,heq⟩:=hI
  by_cases hi:i<l.length
  ·have hiw:c.isWord (l[i.toNat]?.getD 0)=true:=hw _ (D2 (by omega))
   have hr:=AR.wrd_range c h ht hiw
   have hp5:(2:Int)^c.out.toNat<=32:=by
    have:c.out.toNat=1\/c.out.toNat=2\/c.out.toNat=3\/c.out.toNat=4\/c.out.toNat=5:=by omega
    rcases this with h|h|h|h|h<;>rw[h]<;>decide
   have hst:=AR.nxt_state h ht hiw
   have cs:=O4 c (c.wrd t (l[i.toNat]?.getD 0)) (by omega) (by omega)
   have hbl:=Io c.out.toNat (c.wrd t (l[i.toNat]?.getD 0))
   have hdr:l.drop i.toNat=(l[i.toNat]?.getD 0)::l.drop (i+1).toNat:=by rw[Fv (xs:=l) (i:=i.toNat) (by omega),show (i+1).toNat=i.toNat+1 by omega]
   rw[hdr] at heq
   simp only[AR.stream] at heq
   have ht':=ht
   have hiw':=hiw
   simp only[AR.isState,AR.isWord,Cw,decide_eq_true_eq] at ht' hiw'
   have hr1:=AR.ok_words h t.toNat (by omega)
   have hr2:=AR.ok_next h t.toNat (by omega)
   have hnc:((2^c.bits.toNat:Nat):Int)=2^c.bits.toNat:=by simp
   generalize hw0:l[i.toNat]?.getD 0=w at *
   generalize Cu c.out.toNat (c.wrd t w)=B at *
   have hBe:B.isEmpty=false:=by cases B with
    |nil=>simp at hbl;omega
    |cons _ _=>rfl
   (try (simp -implicitDefEqProofs only[go_sem,A8,A5,A7,Cg,c.nxt_eq,c.wrd_eq,hw0]));repeat' first|(with_reducible first|exact tI|refine aI ?_ ?_|intro _)|((first|with_reducible refine AO ?_ ?_<;>intro _|(with_reducible refine isCall ?_);first|refine AE cs ?_)<;>try (simp -implicitDefEqProofs only[go_sem,A8,A5,A7,Cg,c.nxt_eq,c.wrd_eq,hw0]))|simp (disch:=omega) only[Al]|((with_reducible refine Cc ?_);refine⟨(_,_,_,_),rfl,?_,?_⟩)
   all_goals (try simp (disch:=omega) only[Al] at *)
   all_goals first|omega|(simp;done)|(simp;omega)|skip
   all_goals first|exact hst|(rw[c.nxt_eq,←heq];simp;done)|(simp;omega)|(subst hn;cases acc<;>cases B<;>simp_all;done)|skip
  ·have h0:l.drop i.toNat=[]:=List.drop_eq_nil_of_le (by omega)
   rw[h0] at heq
   simp only[AR.stream,List.append_nil] at heq
   (try (simp -implicitDefEqProofs only[go_sem]));repeat' first|(with_reducible first|exact tI|refine aI ?_ ?_|intro _)|((first|with_reducible refine AO ?_ ?_<;>intro _)<;>try (simp -implicitDefEqProofs only[go_sem]))|simp (disch:=omega) only[Al]|((with_reducible refine Cc ?_);refine⟨(_,_,_,_),rfl,?_,?_⟩)
   all_goals first|omega|(simp;done)|(simp;omega)|skip
   all_goals (rw[←heq];try simp[hn])
def qc (o:Option (List Int)):D:=match o with|some l=>.list l.isEmpty (Am l)|none=>.list true []
def qe (o:Option (List Int)):D:=.bool o.isSome
abbrev qq:=List (Option (List Int))
def AR.tbl (c:AR) (bits:List Int) (K:Nat) (q:Nat):qq:=(List.range c.words.length).map fun(s:Nat)=>c.decP bits (K-q) (s:Int) (q:Int)
end Go.Pw
end
section
open Go Go.Pw Go.Proofs
namespace Go.Pw
set_option maxRecDepth 100000
set_option maxHeartbeats 12800000
attribute [local congr] Bl A_ A' Ar Bm Ay A0 Az Aq Ak Ae Aa Av Af Aw BL BP BN BO BM BQ BF Ai Ax Aj BD BX Ah BJ BK BE BG BI BH BB BC A9 Bn BA Au Ag
attribute [local irreducible] IntKind.wrap A4 Option.getD and or
end Go.Pw
end
section
open Go Go.Pw Go.Proofs
namespace Go.Pw
set_option maxRecDepth 100000
set_option maxHeartbeats 3200000
attribute [local congr] Bl A_ A' Ar Bm Ay A0 Az Aq Ak Ae Aa Av Af Aw BL BP BN BO BM BQ BF Ai Ax Aj BD BX Ah BJ BK BE BG BI BH BB BC A9 Bn BA Au Ag
attribute [local irreducible] IntKind.wrap A4 Option.getD and or
def mH (r:Bool×List Int):Bool×List Int:=(false,r.2)
def Er (c:AR):AR:=⟨c.bits,c.out,c.least,c.most,c.words.isEmpty,c.words.map mH,c.next.isEmpty,c.next.map mH⟩
theorem gW (l:Rows) (i:Nat):((l.map mH)[i]?.getD default).2=(l[i]?.getD default).2:=by
 rw[List.getElem?_map];cases l[i]?<;>simp[mH]
theorem YD (b o l m:Int) (wn nn wn' nn':Bool) (w w' n n':Rows) (hw:w'.length=w.length) (hn:n'.length=n.length) :
  AR.head ⟨b,o,l,m,wn',w',nn',n'⟩=AR.head ⟨b,o,l,m,wn,w,nn,n⟩:=by
 simp only[AR.head];rw[hw,hn]
theorem ky (c:AR):(Er c).ok=c.ok:=by
 have h:∀(n:Nat) (hi:Int) (l:Rows),(l.map mH).all (Nc n hi)=l.all (Nc n hi):=by
  intro n hi l;rw[List.all_map];rfl
 have hl:∀l:Rows,(l.map mH).length=l.length:=fun l=>List.length_map ..
 have hh:(Er c).head=c.head:=YD _ _ _ _ _ _ _ _ _ _ _ _ (hl c.words) (hl c.next)
 simp only[AR.ok,hh];simp only[Er,h,hl]
theorem gX (c:AR):(Er c).wrd=c.wrd:=by
 funext s w;simp only[AR.wrd,pu,Er,gW]
theorem gY (c:AR):(Er c).nxt=c.nxt:=by
 funext s w;simp only[AR.nxt,pu,Er,gW]
theorem Pt (c:AR):∀(l:List Int) (s:Int),(Er c).stream s l=c.stream s l
 |[],s=>rfl
 |w::l,s=>by simp only[AR.stream,gX,gY,Pt c l];rfl
end Go.Pw
end
section
open Go Go.Pw Go.Proofs
namespace Go.Pw
set_option maxRecDepth 100000
set_option maxHeartbeats 3200000
attribute [local congr] Bl A_ A' Ar Bm Ay A0 Az Aq Ak Ae Aa Av Af Aw BL BP BN BO BM BQ BF Ai Ax Aj BD BX Ah BJ BK BE BG BI BH BB BC A9 Bn BA Au Ag
attribute [local irreducible] IntKind.wrap A4 Option.getD and or
theorem FS (l:Rows):(C7 l).length=l.length:=by simp[C7]
theorem Ej (l:Rows):Cv 1 (C7 l)=True:=VA fun _=>rfl
def Zj (l:Rows) (n:Nat):Rows:=(l.take n).map mH
theorem Qb {l:Rows}{n:Nat}(h:n<=l.length):(Zj l n).length=n:=by simp[Zj];omega
theorem Wi {l:Rows}{n:Nat}(h:n<l.length):C7 (Zj l n)++[.list false (Am (l[n]?.getD default).2)]=C7 (Zj l (n+1)):=by
 rw[Zj,Zj,List.take_add_one,List.getElem?_eq_getElem h]
 rw[Option.getD_some,List.map_append]
 simp only[C7,List.map_append,Option.toList,List.map_cons,List.map_nil];rfl
theorem Wj (l:Rows):Zj l l.length=l.map mH:=by simp[Zj]
theorem gZ (c:AR):Fw (Er c)=.agg [.int .i64 c.bits,.int .i64 c.out,.int .i64 c.least,.int .i64 c.most,.list c.words.isEmpty (C7 (Zj c.words c.words.length)),.list c.next.isEmpty (C7 (Zj c.next c.next.length))]:=by
 rw[Wj,Wj];rfl
theorem Zc {c:AR}(h:c.far=false):(c.words.length<=20/\∀j:Nat,j<c.words.length->(c.words[j]?.getD default).2.length<=20)/\(c.next.length<=20/\∀j:Nat,j<c.next.length->(c.next[j]?.getD default).2.length<=20):=by
 simp only[AR.far,Bool.or_eq_false_iff,decide_eq_false_iff_not] at h
 obtain⟨⟨⟨h1,h2⟩,h3⟩,h4⟩:=h
 rw[Qf] at h3 h4
 refine⟨⟨by omega,fun j hj=>?_⟩,by omega,fun j hj=>?_⟩
 ·have:=h3 j hj;rw[decide_eq_false_iff_not] at this;omega
 ·have:=h4 j hj;rw[decide_eq_false_iff_not] at this;omega
theorem Q3 (c:AR) (hf:c.far=false):CE E0 Oi [Fw c] (Fw (Er c)):=by
 rw[gZ]
 refine AP Rg Ap (by simp) fun hwf=>?_
 simp only[Du,DA,C_,Cy,EB,EA,Fk,D_,Bi,Bu,Bv,DC,CA,List.length_map,B7,true_and,and_true,A8,A5,A7] at hwf
 have hfw:=(Zc hf).1
 have hfn:=(Zc hf).2
 rw[AW];unfold MO
 (try (simp -implicitDefEqProofs only[go_sem,A8,A5]));repeat' first|(with_reducible first|exact tI|refine aI ?_ ?_|intro _)|((first|with_reducible refine AO ?_ ?_<;>intro _)<;>try (simp -implicitDefEqProofs only[go_sem,A8,A5]))|simp (disch:=omega) only[Al]|((with_reducible refine BT ?_);refine⟨(_,_,_),rfl,?_,?_⟩)
 refine AY (α:=Int×Bool×(List D)) (l0:=?l1) (m0:=?m1) (fun x=>[(4,.d (.int .i64 x.1))]) (fun x=>[(26,.row 29 1 x.2.1 x.2.2)]) (fun x=>0<=x.1/\x.1<=c.words.length/\x.2.1=decide (x.1=0)/\x.2.2=C7 (Zj c.words x.1.toNat)) (fun x=>(c.words.length-x.1).toNat) (?a1_0,?a1_1,[]) ?h01 ?he1 ?he21 ?hI1 ?step1
 case h01=>(simp -implicitDefEqProofs only[go_sem,A8,A5,A7];rfl)
 case he1=>rfl
 case he21=>rfl
 case' step1=>(rintro⟨i,nl,L⟩ hI;try dsimp only at hI)
 case' hI1=>try dsimp only
 ·simp;rfl
 ·obtain⟨h1,h2,h3,h4⟩:=hI
  change nl=decide (i=0) at h3;change L=C7 (Zj c.words i.toNat) at h4
  subst h3;subst h4
  by_cases hi:i<c.words.length
  ·have hl:=Qb (l:=c.words) (n:=i.toNat) (by omega)
   have hs:=Wi (l:=c.words) (n:=i.toNat) (by omega)
   have hr:=hfw.2 i.toNat (by omega)
   have h1':(i+1).toNat=i.toNat+1:=by omega
   (try (simp -implicitDefEqProofs only[go_sem,FS,Ej,Cg,hl]));repeat' first|(with_reducible first|exact tI|refine aI ?_ ?_|intro _)|((first|with_reducible refine AO ?_ ?_<;>intro _)<;>try (simp -implicitDefEqProofs only[go_sem,FS,Ej,Cg,hl]))|simp (disch:=omega) only[Al]|((with_reducible refine BT ?_);refine⟨(_,_,_),rfl,?_,?_⟩)
   all_goals first|omega|(simp;done)|(simp;omega)|skip
   all_goals first|(exfalso;omega)|(simp;omega)|(rw[h1',hs])|skip
  ·have he:i.toNat=c.words.length:=by omega
   rw[he]
   have hl:=Qb (l:=c.words) (n:=c.words.length) (by omega)
   have hz:decide (i=0)=c.words.isEmpty:=by rw[Bool.eq_iff_iff];simp only[decide_eq_true_eq,List.isEmpty_iff,←List.length_eq_zero_iff];omega
   rw[hz]
   (try (simp -implicitDefEqProofs only[go_sem,FS,Ej,hl]));repeat' first|(with_reducible first|exact tI|refine aI ?_ ?_|intro _)|((first|with_reducible refine AO ?_ ?_<;>intro _)<;>try (simp -implicitDefEqProofs only[go_sem,FS,Ej,hl]))|simp (disch:=omega) only[Al]|((with_reducible refine BT ?_);refine⟨(_,_,_),rfl,?_,?_⟩)
   all_goals first|omega|(simp;done)|(simp;omega)|skip
   refine AY (α:=Int×Bool×(List D)) (l0:=?l2) (m0:=?m2) (fun x=>[(5,.d (.int .i64 x.1))]) (fun x=>[(45,.row 29 1 x.2.1 x.2.2)]) (fun x=>0<=x.1/\x.1<=c.next.length/\x.2.1=decide (x.1=0)/\x.2.2=C7 (Zj c.next x.1.toNat)) (fun x=>(c.next.length-x.1).toNat) (?a2_0,?a2_1,[]) ?h02 ?he2 ?he22 ?hI2 ?step2
   case h02=>(simp -implicitDefEqProofs only[go_sem,A8,A5,A7];rfl)
   case he2=>rfl
   case he22=>rfl
   case' step2=>(rintro⟨k,nl2,L2⟩ hI2;try dsimp only at hI2)
   case' hI2=>try dsimp only
   ·simp;rfl
   ·obtain⟨g1,g2,g3,g4⟩:=hI2
    change nl2=decide (k=0) at g3;change L2=C7 (Zj c.next k.toNat) at g4
    subst g3;subst g4
    by_cases hk:k<c.next.length
    ·have gl:=Qb (l:=c.next) (n:=k.toNat) (by omega)
     have gs:=Wi (l:=c.next) (n:=k.toNat) (by omega)
     have gr:=hfn.2 k.toNat (by omega)
     have g1':(k+1).toNat=k.toNat+1:=by omega
     (try (simp -implicitDefEqProofs only[go_sem,FS,Ej,Cg,gl]));repeat' first|(with_reducible first|exact tI|refine aI ?_ ?_|intro _)|((first|with_reducible refine AO ?_ ?_<;>intro _)<;>try (simp -implicitDefEqProofs only[go_sem,FS,Ej,Cg,gl]))|simp (disch:=omega) only[Al]|((with_reducible refine BT ?_);refine⟨(_,_,_),rfl,?_,?_⟩)
     all_goals first|omega|(simp;done)|(simp;omega)|skip
     all_goals first|(exfalso;omega)|(simp;omega)|(rw[g1',gs])|skip
    ·have ge:k.toNat=c.next.length:=by omega
     rw[ge]
     have gl:=Qb (l:=c.next) (n:=c.next.length) (by omega)
     have gz:decide (k=0)=c.next.isEmpty:=by rw[Bool.eq_iff_iff];simp only[decide_eq_true_eq,List.isEmpty_iff,←List.length_eq_zero_iff];omega
     rw[gz]
     (try (simp -implicitDefEqProofs only[go_sem,FS,Ej,hl,gl]));repeat' first|(with_reducible first|exact tI|refine aI ?_ ?_|intro _)|((first|with_reducible refine AO ?_ ?_<;>intro _)<;>try (simp -implicitDefEqProofs only[go_sem,FS,Ej,hl,gl]))|simp (disch:=omega) only[Al]|((with_reducible refine BT ?_);refine⟨(_,_,_),rfl,?_,?_⟩)
     all_goals first|omega|(simp;done)|(simp;omega)|skip
     rfl
end Go.Pw
end
section
open Go Go.Pw Go.Proofs
namespace Go.Pw
set_option maxRecDepth 100000
set_option maxHeartbeats 1600000
def Fg (c:AR):List D:=(List.range 16).map fun s=>.list false (Am (c.stm s))
theorem NP (c:AR):(Fg c).length=16:=by simp[Fg]
theorem Kn (c:AR) {s:Nat}(h:s<16):(Fg c)[s]?=some (.list false (Am (c.stm s))):=by simp[Fg,h]
theorem Ov (c:AR):(Fg c).take 16=Fg c:=List.take_of_length_le (by rw[NP];omega)
def Se (c:AX) (r:List D):List D:=.int .i64 c.code.bits :: .int .i64 c.code.out :: .int .i64 c.code.least :: .int .i64 c.code.most :: .list c.code.nw (C7 c.code.words) :: .list c.code.nn (C7 c.code.next) :: .int .i64 c.L :: .int .i64 c.P :: .int .i64 c.Q :: .list c.nm (Am c.mark) :: .int .i64 c.seed :: .int .i64 c.errs::r
theorem BU (c:AX) (r:List D):Se c r=.int .i64 c.code.bits :: .int .i64 c.code.out :: .int .i64 c.code.least :: .int .i64 c.code.most :: .list c.code.nw (C7 c.code.words) :: .list c.code.nn (C7 c.code.next) :: .int .i64 c.L :: .int .i64 c.P :: .int .i64 c.Q :: .list c.nm (Am c.mark) :: .int .i64 c.seed :: .int .i64 c.errs::r:=rfl
theorem RL (a b c d e f g h i j k l:D) (r:List D) (n:Nat):(a::b::c::d::e::f::g::h::i::j::k::l::r)[12+n]?=r[n]?:=by rw[Nat.add_comm];rfl
theorem ZB (x:Int):(some x).getD 0=x:=rfl
theorem pe:∀n:Fin 16,A4 .and .i64 (n.val:Int) 3=(n.val:Int)%4:=by decide +kernel
theorem iQ {b k:Nat}(s:Int) (h:k<4/b):(Kh b s)[k]?.getD 0=s/2^((4/b-1-k)*b)%2^b:=by simp[Kh,h]
theorem cz {b a:Int}{k s:Nat}(hb:b=1\/b=2) (hk:k<4/b.toNat) (ha:a=4-b*((k:Int)+1)) (hs:s<16) :
  A4 .and .i64 ((s:Int)/2^a.toNat) (IntKind.i64.wrap (2^b.toNat-1))=(Kh b.toNat (s:Int))[k]?.getD 0:=by
 rw[iQ _ hk]
 rcases hb with rfl|rfl
 ·have e:a.toNat=(4/(1:Int).toNat-1-k)*(1:Int).toNat:=by simp;omega
  rw[←e,show IntKind.i64.wrap (2^(1:Int).toNat-1)=1 from AZ 1 (by omega),Zo];rfl
 ·have e:a.toNat=(4/(2:Int).toNat-1-k)*(2:Int).toNat:=by simp at hk ⊢;omega
  rw[←e,show IntKind.i64.wrap (2^(2:Int).toNat-1)=3 from AZ 3 (by omega)]
  have h1:(s:Int)/2^a.toNat=((s/2^a.toNat:Nat):Int):=by push_cast;rfl
  have h2:s/2^a.toNat<16:=Nat.lt_of_le_of_lt (Nat.div_le_self _ _) hs
  rw[h1]
  exact pe ⟨_,h2⟩
theorem mA (n:Int):n.fdiv (2^min 1 64)=n/2:=by rw[Xd];rfl
theorem Ki {L P Q:Int}(h:Cz L P Q=true):2<=L/\L<=15/\1<=P/\P<=8/\P<L/\1<=Q/\Q<=8:=by
 obtain⟨l,p,q,rfl,rfl,rfl,b1,b2,b3,b4,b5,b6,b7,hc⟩:=Jc h
 omega
theorem S6 {L P Q:Int}(h:Cz L P Q=true):2<=Q*L/\Q*L<=120:=by
 obtain⟨l,p,q,rfl,rfl,rfl,b1,b2,b3,b4,b5,b6,b7,hc⟩:=Jc h
 have h1:q*l<=8*15:=Nat.mul_le_mul b7 b2
 have h2:1*2<=q*l:=Nat.mul_le_mul b6 b1
 have h3:(q:Int)*(l:Int)=((q*l:Nat):Int):=by push_cast;rfl
 rw[h3];omega
attribute [local congr] Bl A_ A' Ar Bm Ay A0 Az Aq Ak Ae Aa Av Af Aw BL BP BN BO BM BQ BF Ai Ax Aj BD BX Ah BJ BK BE BG BI BH BB BC A9 Bn BA Au Ag
attribute [local irreducible] IntKind.wrap A4 Option.getD and or
theorem Iz (n lo hi:Int):CE E0 LY [.int .i64 n,.int .i64 lo,.int .i64 hi] (.bool (Cw n lo hi)):=by
 refine AP PD Ap (by simp) fun hwf=>?_
 rw[AW];unfold J0
 (try (simp -implicitDefEqProofs only[go_sem]));repeat' first|(with_reducible first|exact tI|refine aI ?_ ?_|intro _)|((first|with_reducible refine AO ?_ ?_<;>intro _)<;>try (simp -implicitDefEqProofs only[go_sem]))|simp (disch:=omega) only[Al]
 all_goals (simp only[Cw];congr 1;symm;first|(rw[decide_eq_true_eq];omega)|(rw[decide_eq_false_iff_not];omega))
theorem E' (c:AX) (r:List D) (h:Cz c.L c.P c.Q=true):CE E0 E8 [.ptr (Se c r)] (.int .i64 (c.Q*c.L)):=by
 have hb:=S6 h
 have hw:IntKind.i64.wrap (c.Q*c.L)=c.Q*c.L:=AZ _ (by omega)
 refine AP HD Ap (by simp) fun hwf=>?_
 rw[AW];unfold Em
 (try (simp -implicitDefEqProofs only[go_sem,BU,hw]));repeat' first|(with_reducible first|exact tI|refine aI ?_ ?_|intro _)|((first|with_reducible refine AO ?_ ?_<;>intro _)<;>try (simp -implicitDefEqProofs only[go_sem,BU,hw]))|simp (disch:=omega) only[Al]
 all_goals first|rfl|omega|skip
theorem D6 (c:AX):CE E0 F9 [.ptr (Se c (Fg c.code))] (.int .i64 (c.code.sz:Nat)):=by
 have h0:(Fg c.code)[0]?=some (.list false (Am (c.code.stm 0))):=Kn _ (by omega)
 have hl:=Eb c.code 0
 refine AP Ig Ap (by simp) fun hwf=>?_
 rw[AW];unfold FZ
 (try (simp -implicitDefEqProofs only[go_sem,BU,h0,hl]));repeat' first|(with_reducible first|exact tI|refine aI ?_ ?_|intro _)|((first|with_reducible refine AO ?_ ?_<;>intro _)<;>try (simp -implicitDefEqProofs only[go_sem,BU,h0,hl]))|simp (disch:=omega) only[Al]
 all_goals first|rfl|omega|skip
theorem QP {c:AX}(h:Cz c.L c.P c.Q=true):c.Q*c.L=((c.syms:Nat):Int):=by have:=S6 h;unfold AX.syms;omega
theorem Ex (c:AX) (h:Cz c.L c.P c.Q=true) (hc:c.code.ok=true):CE E0 GA [.ptr (Se c (Fg c.code))] (.int .i64 ((c.syms*c.code.sz:Nat):Int)):=by
 have c1:=E' c (Fg c.code) h
 have c2:=D6 c
 have hb:=S6 h
 have he:=QP h
 have hz:=EC hc
 rw[he] at c1 hb
 have hm:c.syms*c.code.sz<=120*20:=Nat.mul_le_mul (by omega) hz.2
 have hw:IntKind.i64.wrap ((c.syms:Int)*(c.code.sz:Int))=((c.syms*c.code.sz:Nat):Int):=by rw[show (c.syms:Int)*(c.code.sz:Int)=((c.syms*c.code.sz:Nat):Int) by push_cast;rfl];exact AZ _ (by omega)
 refine AP Il Ap (by simp) fun hwf=>?_
 rw[AW];unfold Fb
 (try (simp -implicitDefEqProofs only[go_sem,hw]));repeat' first|(with_reducible first|exact tI|refine aI ?_ ?_|intro _)|((first|with_reducible refine AO ?_ ?_<;>intro _|(with_reducible refine isCall ?_);first|refine AE c1 ?_|refine AE c2 ?_)<;>try (simp -implicitDefEqProofs only[go_sem,hw]))|simp (disch:=omega) only[Al]
 all_goals first|rfl|omega|skip
theorem Kd (n:Int):CE E0 FC [.int .i64 n] (.bool (!Cw n 0 1)):=by
 refine AP Kb Ap (by simp) fun hwf=>?_
 rw[AW];unfold Gb
 (try (simp -implicitDefEqProofs only[go_sem,mA]));repeat' first|(with_reducible first|exact tI|refine aI ?_ ?_|intro _)|((first|with_reducible refine AO ?_ ?_<;>intro _)<;>try (simp -implicitDefEqProofs only[go_sem,mA]))|simp (disch:=omega) only[Al]
 all_goals (simp only[Cw];congr 1;symm;first|(rw[Bool.not_eq_false',decide_eq_true_eq];omega)|(rw[Bool.not_eq_true',decide_eq_false_iff_not];omega))
theorem ME (nl:Bool) (xs:List Int):CE E0 IQ [.list nl (Am xs)] (.bool (Mp xs)):=by
 have c1:=CY nl xs FC [] (fun n=>!Cw n 0 1) (by kernel_rfl) rfl (fun x _=>Kd x)
 refine AP L_ Ap (by simp) fun hwf=>?_
 simp only[Du,DA,C_,Cy,EB,EA,Fk,D_,Bi,Bu,Bv,DC,CA,List.length_map,B7,true_and,and_true] at hwf
 rw[AW];unfold HS
 have e:(!xs.any fun n=>!Cw n 0 1)=Ao xs:=by simp[Ao,List.all_eq_not_any_not]
 (try (simp -implicitDefEqProofs only[go_sem]));repeat' first|(with_reducible first|exact tI|refine aI ?_ ?_|intro _)|((first|with_reducible refine AO ?_ ?_<;>intro _|(with_reducible refine isCall ?_);first|refine AE c1 ?_)<;>try (simp -implicitDefEqProofs only[go_sem]))|simp (disch:=omega) only[Al]
 all_goals (unfold Mp;rw[←e];first|rfl|(congr 1;symm;simp_all;done)|(congr 1;symm;simp_all;omega)|skip)
theorem CT (c:AX) (h:Cz c.L c.P c.Q=true):CE E0 KI [Dg c] (.int .i64 (c.Q*c.L)):=by
 have hb:=S6 h
 have hw:IntKind.i64.wrap (c.Q*c.L)=c.Q*c.L:=AZ _ (by omega)
 refine AP N3 Ap (by simp) fun hwf=>?_
 rw[AW];unfold I0
 (try (simp -implicitDefEqProofs only[go_sem,AG,AF,hw]));repeat' first|(with_reducible first|exact tI|refine aI ?_ ?_|intro _)|((first|with_reducible refine AO ?_ ?_<;>intro _)<;>try (simp -implicitDefEqProofs only[go_sem,AG,AF,hw]))|simp (disch:=omega) only[Al]
 all_goals first|rfl|omega|skip
theorem Dx (c:AX) (h:c.code.ok=true):CE E0 Oc [Dg c] (.int .i64 (c.code.sz:Nat)):=by
 have h1:=AR.ok_head h
 have hz:=EC h
 have e:IntKind.i64.wrap (IntKind.i64.wrap ((4:Int).tdiv c.code.bits)*c.code.out)=((c.code.sz:Nat):Int):=by
  have h2:c.code.bits=1\/c.code.bits=2:=by omega
  unfold AR.sz
  rcases h2 with h2|h2
  ·rw[h2,show (4:Int).tdiv 1=4 from rfl,AZ 4 (by omega),AZ _ (by omega),show (1:Int).toNat=1 from rfl];omega
  ·rw[h2,show (4:Int).tdiv 2=2 from rfl,AZ 2 (by omega),AZ _ (by omega),show (2:Int).toNat=2 from rfl];omega
 refine AP Rb Ap (by simp) fun hwf=>?_
 rw[AW];unfold MI
 (try (simp -implicitDefEqProofs only[go_sem,AG,AF,e]));repeat' first|(with_reducible first|exact tI|refine aI ?_ ?_|intro _)|((first|with_reducible refine AO ?_ ?_<;>intro _)<;>try (simp -implicitDefEqProofs only[go_sem,AG,AF,e]))|simp (disch:=omega) only[Al]
 all_goals first|rfl|omega|skip
theorem FO (c:AX) (h:Cz c.L c.P c.Q=true) (hc:c.code.ok=true) (hm:c.mark.length<=1000):CE E0 MZ [Dg c] (.int .i64 (c.tot:Nat)):=by
 have c1:=CT c h
 have c2:=Dx c hc
 have hb:=S6 h
 have he:=QP h
 have hz:=EC hc
 rw[he] at c1 hb
 have hmm:c.syms*c.code.sz<=120*20:=Nat.mul_le_mul (by omega) hz.2
 have hw:IntKind.i64.wrap ((c.syms:Int)*(c.code.sz:Int))=((c.syms*c.code.sz:Nat):Int):=by rw[show (c.syms:Int)*(c.code.sz:Int)=((c.syms*c.code.sz:Nat):Int) by push_cast;rfl];exact AZ _ (by omega)
 have hw2:IntKind.i64.wrap ((c.mark.length:Int)+((c.syms*c.code.sz:Nat):Int))=((c.tot:Nat):Int):=by rw[AZ _ (by omega)];unfold AX.tot;omega
 refine AP QA Ap (by simp) fun hwf=>?_
 rw[AW];unfold Ky
 (try (simp -implicitDefEqProofs only[go_sem,AG,AF,hw,hw2]));repeat' first|(with_reducible first|exact tI|refine aI ?_ ?_|intro _)|((first|with_reducible refine AO ?_ ?_<;>intro _|(with_reducible refine isCall ?_);first|refine AE c1 ?_|refine AE c2 ?_)<;>try (simp -implicitDefEqProofs only[go_sem,AG,AF,hw,hw2]))|simp (disch:=omega) only[Al]
 all_goals first|rfl|omega|skip
theorem O2 (s:Nat) (h:s<16):CE E0 LZ [.int .i64 (s:Int)] (.list false (Am (Kh 1 s))):=by
 have e0:∀x:Int,0<=x->x.tmod 2=x%2:=fun x hx=>Int.tmod_eq_emod_of_nonneg hx
 have e1:∀y:Int,(s:Int).tdiv y=(s:Int)/y:=fun y=>Int.tdiv_eq_ediv_of_nonneg (by omega)
 have e:Kh 1 (s:Int)=[(s:Int).tdiv 8,((s:Int).tdiv 4).tmod 2,((s:Int).tdiv 2).tmod 2,(s:Int).tmod 2]:=by
  rw[e1,e1,e1,e0 _ (by omega),e0 _ (by omega),e0 _ (by omega)]
  show [(s:Int)/8%2,(s:Int)/4%2,(s:Int)/2%2,(s:Int)/1%2]=_
  rw[show (s:Int)/8%2=(s:Int)/8 by omega,Int.ediv_one]
 have w8:IntKind.i64.wrap ((s:Int).tdiv 8)=(s:Int).tdiv 8:=AZ _ (by rw[e1];omega)
 have w4:IntKind.i64.wrap ((s:Int).tdiv 4)=(s:Int).tdiv 4:=AZ _ (by rw[e1];omega)
 have w2:IntKind.i64.wrap ((s:Int).tdiv 2)=(s:Int).tdiv 2:=AZ _ (by rw[e1];omega)
 refine AP PE Ap (by simp) fun hwf=>?_
 rw[AW];unfold J1
 (try (simp -implicitDefEqProofs only[go_sem,e,w8,w4,w2]));repeat' first|(with_reducible first|exact tI|refine aI ?_ ?_|intro _)|((first|with_reducible refine AO ?_ ?_<;>intro _)<;>try (simp -implicitDefEqProofs only[go_sem,e,w8,w4,w2]))|simp (disch:=omega) only[Al]
 all_goals first|rfl|omega|skip
theorem GN {α:Type}{l:List α}(h:l≠[]):l.isEmpty=false:=by cases l with
 |nil=>exact absurd rfl h
 |cons _ _=>rfl
theorem Dw (c:AX) (hc:c.code.ok=true) (s:Nat) (h:s<16):CE E0 La [Dg c,.int .i64 (s:Int)] (.list false (Am (c.code.stm s))):=by
 have c1:=O2 s h
 have c2:=O3 c.code hc 0 false (Kh c.code.bits.toNat s) (Qg hc) (Qi hc s) (by rw[H1];rcases Qe hc with h1|h1<;>rw[h1]<;>omega)
 have he:=GN (XU hc s)
 unfold AR.stm at he ⊢
 rw[he] at c2
 have h1:=AR.ok_head hc
 have hw:Kh 1 (s:Int)=[(s:Int)/8%2,(s:Int)/4%2,(s:Int)/2%2,(s:Int)/1%2]:=rfl
 refine AP PF Ap (by simp) fun hwf=>?_
 rw[AW];unfold J2
 by_cases hb:c.code.bits=2
 ·have h2:Kh c.code.bits.toNat (s:Int)=[2*((s:Int)/8%2)+(s:Int)/4%2,2*((s:Int)/2%2)+(s:Int)/1%2]:=by
   rw[hb]
   show [(s:Int)/4%4,(s:Int)/1%4]=_
   congr 1
   ·omega
   ·congr 1;omega
  rw[h2] at c2 ⊢
  rw[hw] at c1
  have wa:IntKind.i64.wrap (2*((s:Int)/8%2))=2*((s:Int)/8%2):=AZ _ (by omega)
  have wb:IntKind.i64.wrap (2*((s:Int)/2%2))=2*((s:Int)/2%2):=AZ _ (by omega)
  have wc:IntKind.i64.wrap (2*((s:Int)/8%2)+(s:Int)/4%2)=2*((s:Int)/8%2)+(s:Int)/4%2:=AZ _ (by omega)
  have wd:IntKind.i64.wrap (2*((s:Int)/2%2)+(s:Int)/1%2)=2*((s:Int)/2%2)+(s:Int)/1%2:=AZ _ (by omega)
  have hbT:=eq_true hb
  (try (simp -implicitDefEqProofs only[go_sem,AG,AF,hbT,ZB,wa,wb,wc,wd]));repeat' first|(with_reducible first|exact tI|refine aI ?_ ?_|intro _)|((first|with_reducible refine AO ?_ ?_<;>intro _|(with_reducible refine isCall ?_);first|refine AE c1 ?_|refine AE c2 ?_)<;>try (simp -implicitDefEqProofs only[go_sem,AG,AF,hbT,ZB,wa,wb,wc,wd]))|simp (disch:=omega) only[Al]
  all_goals first|rfl|omega|skip
 ·have h2:c.code.bits.toNat=1:=by omega
  rw[h2] at c2 ⊢
  (try (simp -implicitDefEqProofs only[go_sem,AG,AF,hb]));repeat' first|(with_reducible first|exact tI|refine aI ?_ ?_|intro _)|((first|with_reducible refine AO ?_ ?_<;>intro _|(with_reducible refine isCall ?_);first|refine AE c1 ?_|refine AE c2 ?_)<;>try (simp -implicitDefEqProofs only[go_sem,AG,AF,hb]))|simp (disch:=omega) only[Al]
  all_goals first|rfl|omega|skip
theorem Dy (n1 n2:Bool) (xs ys:List Int):CE E0 Od [.list n1 (Am xs),.list n2 (Am ys)] (.bool (decide (xs=ys))):=by
 refine AP Rc Ap (by simp) fun hwf=>?_
 simp only[Du,DA,C_,Cy,EB,EA,Fk,D_,Bi,Bu,Bv,DC,CA,List.length_map,B7,true_and,and_true] at hwf
 rw[AW];unfold MJ
 simp -implicitDefEqProofs only[go_sem]
 refine AY (α:=Nat) (l0:=?l1) (m0:=?m1) (fun x=>[(5,.d (.int .i64 (x:Int)))]) (fun x=>[]) (fun x=>x<=xs.length/\x<=ys.length/\xs.take x=ys.take x) (fun x=>xs.length-x) 0 ?h01 ?he1 ?he21 ?hI1 ?step1
 case h01=>(simp -implicitDefEqProofs only[go_sem];rfl)
 case he1=>rfl
 case he21=>rfl
 case' step1=>(rintro i hI;try dsimp only at hI)
 case' hI1=>try dsimp only
 ·exact⟨Nat.zero_le _,Nat.zero_le _,rfl⟩
 ·obtain⟨i1,i2,i3⟩:=hI
  by_cases h:i<xs.length/\i<ys.length
  ·have h1:(i:Int)<(xs.length:Int):=by omega
   have h2:(i:Int)<(ys.length:Int):=by omega
   have hwi:IntKind.i64.wrap ((i:Int)+1)=((i+1:Nat):Int):=by rw[AZ _ (by omega)];omega
   have hx:xs.take (i+1)=xs.take i++[xs[i]?.getD 0]:=by rw[List.take_add_one];simp[h.1]
   have hy:ys.take (i+1)=ys.take i++[ys[i]?.getD 0]:=by rw[List.take_add_one];simp[h.2]
   (try (simp -implicitDefEqProofs only[go_sem,h1,h2,hwi,h.1,h.2]));repeat' first|(with_reducible first|exact tI|refine aI ?_ ?_|intro _)|((first|with_reducible refine AO ?_ ?_<;>intro _)<;>try (simp -implicitDefEqProofs only[go_sem,h1,h2,hwi,h.1,h.2]))|simp (disch:=omega) only[Al]|((with_reducible refine A1 ?_);refine⟨_,rfl,?_,?_⟩)
   all_goals first|omega|(simp;done)|(simp;omega)|skip
   ·rename_i he
    rw[hx,hy,i3,he]
   ·rename_i he
    congr 1;symm
    rw[decide_eq_false_iff_not]
    intro e;exact he (by rw[e])
  ·by_cases hl:xs.length=ys.length
   ·have hi1:¬(i:Int)<(xs.length:Int):=by omega
    have hi2:¬(i:Int)<(ys.length:Int):=by omega
    have:xs=ys:=by rw[←List.take_of_length_le (l:=xs) (i:=i) (by omega),i3,List.take_of_length_le (by omega)]
    (try (simp -implicitDefEqProofs only[go_sem,hi1,hi2,hl]));repeat' first|(with_reducible first|exact tI|refine aI ?_ ?_|intro _)|((first|with_reducible refine AO ?_ ?_<;>intro _)<;>try (simp -implicitDefEqProofs only[go_sem,hi1,hi2,hl]))|simp (disch:=omega) only[Al]|((with_reducible refine A1 ?_);refine⟨_,rfl,?_,?_⟩)
    all_goals first|omega|(simp;done)|(simp;omega)|skip
    all_goals first|(congr 1;symm;rw[decide_eq_true_eq];exact this)|skip
   ·have hx:xs≠ys:=fun e=>hl (by rw[e])
    have hd:decide (xs=ys)=false:=decide_eq_false hx
    rw[hd]
    (try (simp -implicitDefEqProofs only[go_sem]));repeat' first|(with_reducible first|exact tI|refine aI ?_ ?_|intro _)|((first|with_reducible refine AO ?_ ?_<;>intro _)<;>try (simp -implicitDefEqProofs only[go_sem]))|simp (disch:=omega) only[Al]|((with_reducible refine A1 ?_);refine⟨_,rfl,?_,?_⟩)
    all_goals first|omega|(simp;done)|(simp;omega)|skip
    all_goals skip
theorem OS (c:AR) (hc:c.ok=true) (s:Nat) (h:s<16):CE E0 KR [Fw c,.int .i64 (s:Int)] (.list false (Am (Kh c.bits.toNat s))):=by
 have h1:=AR.ok_head hc
 have hb:c.bits=1\/c.bits=2:=by omega
 have hn:c.bits.toNat=1\/c.bits.toNat=2:=Qe hc
 have hlen:=H1 c.bits.toNat (s:Int)
 refine AP OD Ap (by simp) fun hwf=>?_
 rw[AW];unfold JA
 have w0:IntKind.i64.wrap (4-c.bits)=4-c.bits:=AZ _ (by omega)
 (try (simp -implicitDefEqProofs only[go_sem,A8,A5,w0]));repeat' first|(with_reducible first|exact tI|refine aI ?_ ?_|intro _)|((first|with_reducible refine AO ?_ ?_<;>intro _)<;>try (simp -implicitDefEqProofs only[go_sem,A8,A5,w0]))|simp (disch:=omega) only[Al]|((with_reducible refine BT ?_);refine⟨(_,_,_),rfl,?_,?_⟩)
 all_goals first|omega|(simp;done)|(simp;omega)|skip
 refine AY (α:=Nat×Int×Bool) (l0:=?l2) (m0:=?m2) (fun x=>[(6,.d (.int .i64 x.2.1))]) (fun x=>[(26,.row 3 1 x.2.2 (Am ((Kh c.bits.toNat (s:Int)).take x.1)))]) (fun x=>x.1<=4/c.bits.toNat/\x.2.1=4-c.bits*((x.1:Int)+1)/\x.2.2=decide (x.1=0)) (fun x=>4/c.bits.toNat-x.1) (0,(4-c.bits),true) ?h02 ?he2 ?he22 ?hI2 ?step2
 case h02=>(simp -implicitDefEqProofs only[go_sem,A8,A5];rfl)
 case he2=>rfl
 case he22=>rfl
 case' step2=>(rintro⟨k,a,nl⟩ hI;try dsimp only at hI)
 case' hI2=>try dsimp only
 ·exact⟨Nat.zero_le _,by rcases hb with h2|h2<;>rw[h2]<;>rfl,rfl⟩
 ·obtain⟨k1,k2,k3⟩:=hI
  change a=4-c.bits*((k:Int)+1) at k2
  change nl=decide (k=0) at k3
  by_cases hk:k<4/c.bits.toNat
  ·have ha:0<=a/\a<=3:=by
    rcases hb with h2|h2<;>rw[h2] at k2 hk<;>simp at hk<;>omega
   have h0:0<=a:=ha.1
   have e1:=cz hb hk k2 h
   obtain⟨x,hx⟩:∃x,(Kh c.bits.toNat (s:Int))[k]?.getD 0=x:=⟨_,rfl⟩
   have hst:(Kh c.bits.toNat (s:Int)).take (k+1)=(Kh c.bits.toNat (s:Int)).take k++[x]:=by
    rw[←hx,List.take_add_one,List.getElem?_eq_getElem (by rw[hlen];exact hk)];simp[Option.getD]
   rw[hx] at e1
   have hl4:((Kh c.bits.toNat (s:Int)).take k).length<=4:=by rw[List.length_take,hlen];have:=Nat.div_le_self 4 c.bits.toNat;omega
   have wn:IntKind.i64.wrap (a-c.bits)=a-c.bits:=AZ _ (by omega)
   (try (simp -implicitDefEqProofs only[go_sem,A8,A5,h0,wn,e1]));repeat' first|(with_reducible first|exact tI|refine aI ?_ ?_|intro _)|((first|with_reducible refine AO ?_ ?_<;>intro _)<;>try (simp -implicitDefEqProofs only[go_sem,A8,A5,h0,wn,e1]))|simp (disch:=omega) only[Al]|((with_reducible refine BT ?_);refine⟨(_,_,_),rfl,?_,?_⟩)
   all_goals first|omega|(simp;done)|(simp;omega)|skip
   rw[e1,←hst]
   refine⟨(k+1,a-c.bits,false),rfl,⟨by show k+1<=_;omega,?_,?_⟩,by show 4/c.bits.toNat-(k+1)<_;omega⟩
   ·show a-c.bits=4-c.bits*(((k+1:Nat):Int)+1)
    rw[k2];push_cast;rw[Int.mul_add,Int.mul_add,Int.mul_add];omega
   ·show false=decide (k+1=0)
    exact(decide_eq_false (by omega)).symm
  ·have ha:¬0<=a:=by
    rcases hb with h2|h2<;>rw[h2] at k2 hk<;>simp at hk<;>omega
   have hk0:nl=false:=by
     rw[k3,decide_eq_false];have:2<=4/c.bits.toNat:=by rcases hn with h2|h2<;>rw[h2]<;>omega
     omega
   have htk:(Kh c.bits.toNat (s:Int)).take k=Kh c.bits.toNat (s:Int):=List.take_of_length_le (by rw[hlen];omega)
   rw[hk0,htk]
   (try (simp -implicitDefEqProofs only[go_sem,A8,A5,ha]));repeat' first|(with_reducible first|exact tI|refine aI ?_ ?_|intro _)|((first|with_reducible refine AO ?_ ?_<;>intro _)<;>try (simp -implicitDefEqProofs only[go_sem,A8,A5,ha]))|simp (disch:=omega) only[Al]|((with_reducible refine BT ?_);refine⟨(_,_,_),rfl,?_,?_⟩)
   all_goals first|omega|(simp;done)|(simp;omega)|skip
   all_goals first|rfl|skip
end Go.Pw
end

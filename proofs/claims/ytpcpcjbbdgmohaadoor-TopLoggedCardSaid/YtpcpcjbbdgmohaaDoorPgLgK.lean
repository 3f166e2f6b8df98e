/- A part of the proof. -/
import Derived.Test.YtpcpcjbbdgmohaaDoorLgJournalSpec3
import Derived.Test.YtpcpcjbbdgmohaaDoorPgLgJournalH
import Derived.Test.YtpcpcjbbdgmohaaDoorLgI
import Derived.Test.YtpcpcjbbdgmohaaDoorLgJ
import Derived.Test.YtpcpcjbbdgmohaaDoorPgLgJournalA
set_option linter.all false
section
open Go Go.Pw
namespace Go.Pw
def HR (c:A0):Nat->List Eb
 |0=>[]
 |i+1=>if (c.ords[i]?.getD default).puts=true then HR c i++[⟨(c.ords[i]?.getD default).blk,(i:Int)+1,0⟩] else HR c i
def Hh (c:A0):Nat->Int
 |0=>-1
 |i+1=>if (c.ords[i]?.getD default).puts=true then (i:Int) else Hh c i
theorem SO (c:A0):∀i,(HR c i).length<=i
 |0=>Nat.le_refl _
 |i+1=>by
  have:=SO c i
  rw[HR];split
  ·simp;omega
  ·omega
theorem Mr (c:A0):∀i,-1<=Hh c i/\Hh c i<i
 |0=>by simp[Hh]
 |i+1=>by
  have:=Mr c i
  rw[Hh];split<;>omega
theorem Pu (c:A0):∀i,(Hh c i=-1/\HR c i=[])\/(0<=Hh c i/\∃e,HR c i=HR c (Hh c i).toNat++[e])
 |0=>.inl ⟨rfl,rfl⟩
 |i+1=>by
  rw[Hh,HR];split
  ·right
   exact⟨by omega,_,by rw[Int.toNat_natCast]⟩
  ·exact Pu c i
theorem SM {c:A0}(hc:c.ok=true):∀i,i<=c.ords.length->∀e,e∈HR c i->(0<=e.blk/\e.blk<=c.blocks-1)/\(0<=e.val/\e.val<=999)/\e.tail=0
 |0,_,e,he=>by cases he
 |i+1,hi,e,he=>by
  have hb:=Ca hc
  have ih:=SM hc i (by omega) e
  rw[HR] at he
  split at he
  ·rename_i hp
   rcases List.mem_append.1 he with he|he
   ·exact ih he
   ·rw[List.mem_singleton] at he;subst he
    have:=LN (Eu hc (show i<c.ords.length by omega)) hp
    exact⟨this,⟨by show (0:Int)<=(i:Int)+1;omega,by show (i:Int)+1<=999;omega⟩,rfl⟩
  ·exact ih he
def Yz (home:List Int) (es:List Eb):List Int:=es.foldl (fun h e=>h.set e.blk.toNat e.val) home
theorem Ro (home:List Int) (es:List Eb) (e:Eb):Yz home (es++[e])=(Yz home es).set e.blk.toNat e.val:=by unfold Yz;rw[List.foldl_append];rfl
theorem Yy (home:List Int) (es:List Eb):(Yz home es).length=home.length:=by
 have key:∀(es:List Eb) (home:List Int),(es.foldl (fun h (e:Eb)=>h.set e.blk.toNat e.val) home).length=home.length:=by
  intro es
  induction es with
  |nil=>intro _;rfl
  |cons e es ih=>intro home;rw[List.foldl_cons,ih,List.length_set]
 exact key es home
theorem TH {c:A0}(hc:c.ok=true) {home:List Int}(hh:home.length=c.blocks.toNat):∀i,i<=c.ords.length->∀b,b<c.blocks.toNat ->
  (Yz home (HR c i))[b]?.getD 0=if (J1 c i)[b]?.getD 0=-1 then home[b]?.getD 0 else (J1 c i)[b]?.getD 0+1
 |0,_,b,hb=>by
  have:(J1 c 0)[b]?.getD 0=-1:=by rw[J1,List.getElem?_replicate,if_pos hb];rfl
  rw[this,if_pos rfl];rfl
 |i+1,hi,b,hb=>by
  have ih:=TH hc hh i (by omega) b hb
  rw[HR,J1]
  split
  ·rename_i hp
   have hk:=LN (Eu hc (show i<c.ords.length by omega)) hp
   have cb:=Ca hc
   rw[Ro,DN (by rw[Yy,hh];show (c.ords[i]?.getD default).blk.toNat<_;omega),DN (by rw[Ju];omega)]
   split
   ·rw[if_neg (by omega)]
   ·exact ih
  ·exact ih
theorem Qi (ks:List Bd) (n:Int) (ws:List Eb):∀k i,i<k->(M9 ks n ws k)[ks.length+i]?.getD default=⟨n+i+1,(ws[i]?.getD default).blk,(ws[i]?.getD default).val,(ws[i]?.getD default).tail,false⟩
 |0,i,h=>by omega
 |k+1,i,h=>by
  rw[M9]
  by_cases hk:i<k
  ·rw[List.getElem?_append_left (by rw[Gq];omega)];exact Qi ks n ws k i hk
  ·have:i=k:=by omega
   subst this
   rw[List.getElem?_append_right (by rw[Gq];omega),Gq,Nat.sub_self];rfl
theorem Rg (rs:List Bd) (home:List Int) (es:List Eb):∀k,k<=es.length->(∀i,i<k->(rs[i]?.getD default).blk=(es[i]?.getD default).blk/\(rs[i]?.getD default).val=(es[i]?.getD default).val)->QS rs home k=Yz home (es.take k)
 |0,_,_=>rfl
 |k+1,hk,h=>by
  obtain⟨h1,h2⟩:=h k (by omega)
  have he:es[k]?=some es[k]:=List.getElem?_eq_getElem (by omega)
  rw[QS,Rg rs home es k (by omega) fun i hi=>h i (by omega),List.take_add_one,he,Option.toList_some,Ro,h1,h2,he];rfl
def AY.none' (l:AY):Prop:=∀i,i<l.slots.length->l.slots[i]?.getD default=DZ
theorem Ry {l:AY}(h:l.none'):∀i,i<=l.slots.length->Gn l.slots i=DZ
 |0,_=>rfl
 |i+1,hi=>by rw[Gn,Ry h i (by omega),h i (by omega)];rfl
theorem HE {l:AY}(h:l.none'):l.newest=DZ:=Ry h _ (Nat.le_refl _)
theorem Po {l:AY}(h:l.none'):l.many=0:=by unfold AY.many;rw[HE h];rfl
theorem MG {l:AY}(h:l.none'):l.full=true:=by unfold AY.full;rw[Po h];rfl
theorem VS {l:AY}(h:l.none'):l.kept=[]:=by unfold AY.kept;rw[Po h];rfl
theorem VR {l:AY}(h:l.none') (hc:l.check=0):l.openE=0:=N7 hc (MG h)
theorem OA {l:AY}(h:l.none') (hc:l.check=0) {es:List Eb}(he:∀e,e∈es->(0<=e.blk/\e.blk<=l.blocks-1)/\(0<=e.val/\e.val<=999)/\e.tail=0):∀i,i<=es.length->FV l.blocks l.slots es i=if i<=l.slots.length then 0 else 163
 |0,_=>by rw[if_pos (Nat.zero_le _)];rfl
 |i+1,hi=>by
  have g:=FM hc
  have m2:=g.m2
  have ih:=OA h hc he i (by omega)
  rw[FV,ih]
  by_cases hl:i<=l.slots.length
  ·rw[if_pos hl,if_pos rfl]
   rw[if_pos hl] at ih
   have hn:(D0 (DA l.slots es i)).num=-1+i:=by rw[I_ g es i ih,HE h];rfl
   have ht:(D0 (DA l.slots es i)).tail=0:=by
    cases i with
    |zero=>show (D0 l.slots).tail=0;rw[←DU,HE h];rfl
    |succ j =>
     rw[Pf g es j ih]
     show (es[j]?.getD default).tail=0
     rw[List.getElem?_eq_getElem (by omega)]
     exact(he _ (List.getElem_mem (by omega))).2.2
   have hx:=he (es[i]?.getD default) (by rw[List.getElem?_eq_getElem (by omega)];exact List.getElem_mem (by omega))
   obtain⟨x,hxe⟩:∃x,es[i]?.getD default=x:=⟨_,rfl⟩
   rw[hxe] at hx
   obtain⟨x1,x2,x3⟩:=hx
   rw[hxe]
   have h1:SN l.blocks (DA l.slots es i) x=true:=by
    unfold SN
    simp only[Bool.and_eq_true,CR]
    rw[hn,ht]
    exact⟨x1,x2,by omega⟩
   unfold GL
   rw[h1,if_pos rfl,hn,ht,LH]
   by_cases h2:i+1<=l.slots.length
   ·rw[if_neg (by omega),if_neg (by omega),if_pos h2]
   ·rw[if_pos (by omega),if_neg h2]
  ·rw[if_neg hl,if_neg (by decide),if_neg (by omega)]
theorem Rx {l:AY}(h:l.none') (hc:l.check=0) {es:List Eb}(he:∀e,e∈es->(0<=e.blk/\e.blk<=l.blocks-1)/\(0<=e.val/\e.val<=999)/\e.tail=0) (hl:es.length<=l.slots.length)
  {d:Nat}(hd:d<=es.length) (torn:Bool) (ht:torn=true->d<es.length) (home:List Int) (k:AY) (hk:k=l.op.setS (Kt l.slots es d torn)):k.openE=0/\k.repL home=Yz home (es.take d)/\k.blocks=l.blocks:=by
 have g:=FM hc
 have hE:FV l.blocks l.slots es es.length=0:=by rw[OA h hc he _ (Nat.le_refl _),if_pos hl]
 obtain⟨a1,a2,a3⟩:=Zf (torn:=torn) hc (MG h) hE hd ht
 subst hk
 refine⟨a1,?_,rfl⟩
 unfold AY.repL
 have hkept:(l.op.setS (Kt l.slots es d torn)).kept=M9 [] (-1) es d:=by
  rw[a2,Ph g (MG h) es d (EP hE hd),VS h,HE h,show DZ.num=-1 from rfl]
  refine List.filter_eq_self.2 fun r hr=>?_
  obtain⟨j,hj,rfl⟩:=List.getElem_of_mem hr
  rw[Gq] at hj
  have:=Qi [] (-1) es d j (by simpa using hj)
  simp only[List.length_nil,Nat.zero_add] at this
  rw[List.getElem?_eq_getElem (by rw[Gq];exact hj),Option.getD_some] at this
  show (decide (d=0) || decide (SI es d<=(M9 [] (-1) es d)[j].num))=true
  rw[this]
  cases d with
  |zero=>rfl
  |succ d =>
   have h0:(es[d]?.getD default).tail=0:=by
    rw[List.getElem?_eq_getElem (by omega)]
    exact(he _ (List.getElem_mem (by omega))).2.2
   rw[SI,h0]
   simp;omega
 rw[hkept,Gq]
 simp only[List.length_nil,Nat.zero_add]
 refine Rg _ _ _ _ hd fun i hi=>?_
 have:=Qi [] (-1) es d i hi
 simp only[List.length_nil,Nat.zero_add] at this
 rw[this];exact⟨rfl,rfl⟩
def E8 (im:List Int):Nat->List Int
 |0=>List.replicate im.length 0
 |i+1=>(E8 im i).set i (max 0 (im[i]?.getD 0+1))
theorem Gb (im:List Int):∀i,(E8 im i).length=im.length
 |0=>by simp[E8]
 |i+1=>by rw[E8,List.length_set,Gb im i]
theorem OG (im:List Int):∀i,i<=im.length->∀b,b<im.length->(E8 im i)[b]?.getD 0=if b<i then max 0 (im[b]?.getD 0+1) else 0
 |0,_,b,hb=>by rw[E8,List.getElem?_replicate,if_pos hb,if_neg (by omega)];rfl
 |i+1,hi,b,hb=>by
  rw[E8,DN (by rw[Gb];omega),OG im i (by omega) b hb]
  by_cases h:i=b
  ·subst h;rw[if_pos rfl,if_pos (by omega)]
  ·rw[if_neg h]
   by_cases h2:b<i
   ·rw[if_pos h2,if_pos (by omega)]
   ·rw[if_neg h2,if_neg (by omega)]
theorem Qc {c:A0}(hc:c.ok=true) {b:Nat}(hb:b<c.blocks.toNat):∀i,i<=c.ords.length->(J1 c i)[b]?.getD 0=-1->∀n,n<i->(c.ords[n]?.getD default).puts=true->(c.ords[n]?.getD default).blk≠(b:Int)
 |0,_,_,n,hn=>by omega
 |i+1,hi,h,n,hn=>by
  rw[J1] at h
  intro hp hk
  split at h
  ·rename_i hpi
   have hki:=LN (Eu hc (show i<c.ords.length by omega)) hpi
   have cb:=Ca hc
   rw[DN (by rw[Ju];omega)] at h
   split at h
   ·omega
   ·rename_i hne
    by_cases hni:n=i
    ·subst hni;rw[hk] at hne;omega
    ·exact Qc hc hb i (by omega) h n (by omega) hp hk
  ·rename_i hpi
   by_cases hni:n=i
   ·subst hni;exact hpi hp
   ·exact Qc hc hb i (by omega) h n (by omega) hp hk
theorem R6 {c:A0}{ds:List G5}{torn:Bool}(h:EF c ds torn=0) (hc:c.ok=true) {b:Nat}(hb:b<c.blocks.toNat) :
  (Yz (E8 (DW c ds torn) (DW c ds torn).length) (HR c c.ords.length))[b]?.getD 0=(J1 c c.ords.length)[b]?.getD 0+1:=by
 obtain⟨h1,h2⟩:=Gg h
 rw[TH hc (by rw[Gb,h1]) _ (Nat.le_refl _) b hb]
 split
 ·rename_i hn
  rw[OG _ _ (Nat.le_refl _) b (by omega),if_pos (by omega),hn]
  rcases h2 b hb with h3|h3|⟨h3,h4,h5,h6⟩
  ·rw[h3];rfl
  ·rw[h3];rfl
  ·exact absurd h6 (Qc hc hb _ (Nat.le_refl _) hn _ (by omega) h5)
 ·rfl
def A0.cut (c:A0) (n:Nat):A0:=⟨c.blocks,false,c.ords.take n⟩
theorem bd {c:A0}(hc:c.ok=true) (n:Nat):(c.cut n).ok=true:=by
 simp only[A0.ok,Bool.and_eq_true,decide_eq_true_eq,List.all_eq_true] at hc ⊢
 exact⟨hc.1,by show (c.ords.take n).length<=16;rw[List.length_take];omega,fun o ho=>hc.2.2 o (List.mem_of_mem_take ho)⟩
theorem X6 (c:A0) (n:Nat):∀i,i<=n->J1 (c.cut n) i=J1 c i
 |0,_=>rfl
 |i+1,hi=>by
  have:(c.cut n).ords[i]?.getD default=c.ords[i]?.getD default:=by show (c.ords.take n)[i]?.getD default=_;rw[List.getElem?_take_of_lt (by omega)]
  rw[J1,J1,X6 c n i (by omega),this]
theorem TW {c:A0}(hc:c.ok=true) {n:Nat}(hn:n<=c.ords.length) {b:Nat}(hb:b<c.blocks.toNat) :
  (Yz (List.replicate c.blocks.toNat 0) (HR c n))[b]?.getD 0=(J1 (c.cut n) (c.cut n).ords.length)[b]?.getD 0+1:=by
 have hl:(c.cut n).ords.length=n:=by show (c.ords.take n).length=n;rw[List.length_take];omega
 rw[hl,X6 c n n (Nat.le_refl _),TH hc (by simp) n hn b hb]
 split
 ·rename_i h;rw[h,List.getElem?_replicate,if_pos hb];rfl
 ·rfl
end Go.Pw
end
section
open Go Go.Pw Go.Proofs
namespace Go.Pw
set_option maxRecDepth 100000
set_option maxHeartbeats 6400000
def co:A0:=⟨3,false,[⟨1,0⟩,⟨1,1⟩,⟨3,0⟩,⟨1,0⟩,⟨2,2⟩,⟨1,1⟩]⟩
theorem bS:co.ok=true:=by kernel_rfl
theorem cm:EF co [] false=0:=by kernel_rfl
theorem cj:DW co [] false=[0,1,4]:=by kernel_rfl
theorem PN (l:List Eb) (a b:Int):Ow l++[.agg [.int .i64 a,.int .i64 b,.int .i64 0]]=Ow (l++[⟨a,b,0⟩]):=by simp[Ow,bm,dB]
attribute [local congr] DP B9 B_ Bj DR Bn Bp Bo Bi BW BQ BF Bl BR BU Bm BV CC Cg BT CE CF CD CA CB B8 DQ B' Bk BS
attribute [local irreducible] IntKind.wrap CG Option.getD and or
theorem LU:D6 E0 Iq [] (Fu co):=by
 refine Ap Li A' (by simp) fun hwf=>?_
 rw[Av];unfold Hc
 (try (simp -implicitDefEqProofs only[go_sem]));repeat' first|(with_reducible first|exact tI|refine aI ?_ ?_|intro _)|((first|with_reducible refine Ad ?_ ?_<;>intro _)<;>try (simp -implicitDefEqProofs only[go_sem]))|simp (disch:=omega) only[A7]
 all_goals first|omega|rfl|skip
theorem Nk:D6 E0 Ly [] (.bool true):=by
 refine Ap OP A' (by simp) fun hwf=>?_
 have c1:=LT
 have c2:=FJ dG (by intro h;cases h) (by intro h;cases h) false [1,1,1] (by intro h;cases h)
 rw[Xt,if_pos rfl,ZU] at c2
 have c3:=LU
 have c4:=Jb co bS (by decide) true [] false
 rw[cm,if_pos rfl,cj] at c4
 rw[Am] at c1 c2
 rw[AP] at c3 c4
 rw[Av];unfold KB
 (try (simp -implicitDefEqProofs only[go_sem,Option.getD_some]));repeat' first|(with_reducible first|exact tI|refine aI ?_ ?_|intro _)|((first|with_reducible refine Ad ?_ ?_<;>intro _|(with_reducible refine isCall ?_);first|refine AH c1 ?_|refine AH c2 ?_|refine AH c3 ?_|refine AH c4 ?_)<;>try (simp -implicitDefEqProofs only[go_sem,Option.getD_some]))|simp (disch:=omega) only[A7]
 all_goals first|omega|rfl|skip
end Go.Pw
end
section
open Go Go.Pw Go.Proofs
namespace Go.Pw
set_option maxRecDepth 100000
set_option maxHeartbeats 12800000
theorem cg {c:A0}(h:c.far=false) (hc:c.ok=true):c.blocks<=3/\c.ords.length<=7:=by
 unfold A0.far at h
 rw[hc] at h
 simp only[Bool.or_eq_false_iff,Bool.and_eq_false_iff,decide_eq_false_iff_not,Bool.true_and] at h
 omega
theorem check_ok {c:A0}(h:c.check=0):c.ok=true:=by
 unfold A0.check at h
 cases hc:c.ok with
 |true=>rfl
 |false=>rw[hc] at h;simp at h
structure LgG (c:A0) (l:AY):Prop where
 ok:c.ok=true
 b3:c.blocks<=3
 o7:c.ords.length<=7
 ck:l.check=0
 bl:l.blocks=c.blocks
theorem Zv {c:A0}{ds:List G5}{torn:Bool}(hc:c.ok=true) (h:EF c ds torn=0):∀b,b<(DW c ds torn).length->Ue c (DW c ds torn) b=true:=by
 obtain⟨h1,h2⟩:=Gg h
 intro b hb
 have cb:=Ca hc
 unfold Ue
 rcases h2 b (by omega) with h3|h3|⟨h3,h4,h5,h6⟩
 ·simp[h3]
 ·simp[h3]
 ·simp only[Bool.or_eq_true,decide_eq_true_eq,Bool.and_eq_true]
  exact .inr (.inr ⟨NT.2 ⟨h3,by omega⟩,h5,h6⟩)
theorem Px {c:A0}{ds:List G5}{torn:Bool}(hc:c.ok=true) (h:EF c ds torn=0) {b:Nat}(hb:b<c.blocks.toNat):-2<=(DW c ds torn)[b]?.getD 0/\(DW c ds torn)[b]?.getD 0<=16:=by
 obtain⟨h1,h2⟩:=Gg h
 have cb:=Ca hc
 rcases h2 b hb with h3|h3|⟨h3,h4,h5,h6⟩<;>omega
theorem XZ {c:A0}{ds:List G5}{torn:Bool}(hc:c.ok=true) (h:EF c ds torn=0) {k:AY}(hk:k.blocks=c.blocks):Kk k (E8 (DW c ds torn) (DW c ds torn).length)=true:=by
 obtain⟨h1,h2⟩:=Gg h
 have cb:=Ca hc
 have hlen:(E8 (DW c ds torn) (DW c ds torn).length).length=c.blocks.toNat:=by rw[Gb,h1]
 have hval:∀j,j<c.blocks.toNat->EO ((E8 (DW c ds torn) (DW c ds torn).length)[j]?.getD 0) 0 999=true:=fun j hj=>by
  have hr:=Px hc h hj
  rw[OG (DW c ds torn) _ (Nat.le_refl _) j (by omega),if_pos (by omega),CR];omega
 generalize E8 (DW c ds torn) (DW c ds torn).length=H at hlen hval
 unfold Kk
 rw[hlen,hk,decide_eq_true (by omega),Bool.true_and,List.all_eq_true]
 intro x hx
 obtain⟨j,hj,rfl⟩:=List.getElem_of_mem hx
 have:=hval j (by omega)
 rw[List.getElem?_eq_getElem hj,Option.getD_some] at this
 exact this
theorem WW {c:A0}(hc:c.ok=true) {k:AY}(hk:k.blocks=c.blocks):Kk k (List.replicate c.blocks.toNat 0)=true:=by
 have cb:=Ca hc
 unfold Kk
 rw[List.length_replicate,hk,decide_eq_true (by omega),Bool.true_and,List.all_eq_true]
 intro x hx
 rw[(List.mem_replicate.1 hx).2];rfl
theorem Rh (k:AY) (home:List Int):(k.repL home).length=home.length:=Nx _ _ _
theorem N_ (c:A0) {b:Nat}(hb:b<c.blocks.toNat):∀i,-1<=(J1 c i)[b]?.getD 0/\(J1 c i)[b]?.getD 0<i
 |0=>by rw[J1,List.getElem?_replicate,if_pos hb];simp
 |i+1=>by
  have:=N_ c hb i
  rw[J1];split
  ·by_cases hk:(c.ords[i]?.getD default).blk.toNat<(J1 c i).length
   ·rw[DN hk];split<;>omega
   ·rw[List.set_eq_of_length_le (by omega)];omega
  ·omega
theorem XB {c:A0}{ds:List G5}{torn:Bool}(hc:c.ok=true):EF c ds torn=0\/EF c ds torn=1:=by
 unfold EF;rw[hc];simp only[Bool.not_true,Bool.false_eq_true,if_false]
 split
 ·exact .inr rfl
 ·split
  ·exact .inr rfl
  ·exact .inl rfl
theorem N5 (l:List DI) (n:Nat):(Ib l).take n=Ib (l.take n):=by simp[Ib,List.map_take]
theorem Yj {r:Bd}(h1:r.num=-1) (h2:r.blk=0) (h3:r.val=0) (h4:r.tail=0) (h5:r.bad=false):r=DZ:=Bd.ext' h1 h2 h3 h4 h5
attribute [local congr] DP B9 B_ Bj DR Bn Bp Bo Bi BW BQ BF Bl BR BU Bm BV CC Cg BT CE CF CD CA CB B8 DQ B' Bk BS
attribute [local irreducible] IntKind.wrap CG Option.getD and or
theorem PG (c:A0) (l:AY) (hs:l.sn=true->l.slots=[]) (hz:l.disk.zn=true->l.disk.zones=[]) (nd:Bool) (ds:List G5) (torn:Bool) :
  D6 E0 Il [Fu c,J2 l,.agg [.list nd (OL ds),.bool torn]] (.bool true):=by
 refine Ap Le A' (by simp) fun hwf=>?_
 simp only[Fm,FB,FA,El,GD,GC,IK,GB,Cy,DF,DG,FD,Di,List.length_map,Dn,true_and,and_true,AP,AF,AG,Am,Aa,AJ,Az] at hwf
 have c0:=Nk
 have g1:=O6 c
 have g2:=IP c
 have g3:=O5 l
 have g4:=M6 l
 rw[AP,AF] at g1 g2
 rw[Am,Aa] at g3 g4
 rw[Av];unfold HY
 cases hf:c.far with
 |true =>
  rw[hf] at g1
  (try (simp -implicitDefEqProofs only[go_sem,AP,AF,AG,Am,Aa,Az]));repeat' first|(with_reducible first|exact tI|refine aI ?_ ?_|intro _)|((first|with_reducible refine Ad ?_ ?_<;>intro _|(with_reducible refine isCall ?_);first|refine AH g1 ?_|refine AH c0 ?_)<;>try (simp -implicitDefEqProofs only[go_sem,AP,AF,AG,Am,Aa,Az]))|simp (disch:=omega) only[A7]|((with_reducible refine E7 ?_);refine⟨(_,_,_,_),rfl,?_,?_⟩)|((with_reducible refine BL ?_);refine⟨_,rfl,?_,?_⟩)
 |false =>
 rw[hf] at g1
 by_cases hk:c.check=0
 case neg =>
  (try (simp -implicitDefEqProofs only[go_sem,AP,AF,AG,Am,Aa,Az,hk]));repeat' first|(with_reducible first|exact tI|refine aI ?_ ?_|intro _)|((first|with_reducible refine Ad ?_ ?_<;>intro _|(with_reducible refine isCall ?_);first|refine AH g1 ?_|refine AH g2 ?_|refine AH c0 ?_)<;>try (simp -implicitDefEqProofs only[go_sem,AP,AF,AG,Am,Aa,Az,hk]))|simp (disch:=omega) only[A7]|((with_reducible refine E7 ?_);refine⟨(_,_,_,_),rfl,?_,?_⟩)|((with_reducible refine BL ?_);refine⟨_,rfl,?_,?_⟩)
 cases hf2:l.far with
 |true =>
  rw[hf2] at g3
  rw[hk] at g2
  (try (simp -implicitDefEqProofs only[go_sem,AP,AF,AG,Am,Aa,Az]));repeat' first|(with_reducible first|exact tI|refine aI ?_ ?_|intro _)|((first|with_reducible refine Ad ?_ ?_<;>intro _|(with_reducible refine isCall ?_);first|refine AH g1 ?_|refine AH g2 ?_|refine AH g3 ?_|refine AH c0 ?_)<;>try (simp -implicitDefEqProofs only[go_sem,AP,AF,AG,Am,Aa,Az]))|simp (disch:=omega) only[A7]|((with_reducible refine E7 ?_);refine⟨(_,_,_,_),rfl,?_,?_⟩)|((with_reducible refine BL ?_);refine⟨_,rfl,?_,?_⟩)
 |false =>
 rw[hf2] at g3
 by_cases hk2:l.check=0
 case neg =>
  rw[hk] at g2
  (try (simp -implicitDefEqProofs only[go_sem,AP,AF,AG,Am,Aa,Az,hk2]));repeat' first|(with_reducible first|exact tI|refine aI ?_ ?_|intro _)|((first|with_reducible refine Ad ?_ ?_<;>intro _|(with_reducible refine isCall ?_);first|refine AH g1 ?_|refine AH g2 ?_|refine AH g3 ?_|refine AH g4 ?_|refine AH c0 ?_)<;>try (simp -implicitDefEqProofs only[go_sem,AP,AF,AG,Am,Aa,Az,hk2]))|simp (disch:=omega) only[A7]|((with_reducible refine E7 ?_);refine⟨(_,_,_,_),rfl,?_,?_⟩)|((with_reducible refine BL ?_);refine⟨_,rfl,?_,?_⟩)
 by_cases hbl:l.blocks=c.blocks
 case neg =>
  rw[hk] at g2
  rw[hk2] at g4
  (try (simp -implicitDefEqProofs only[go_sem,AP,AF,AG,Am,Aa,Az,eq_false hbl]));repeat' first|(with_reducible first|exact tI|refine aI ?_ ?_|intro _)|((first|with_reducible refine Ad ?_ ?_<;>intro _|(with_reducible refine isCall ?_);first|refine AH g1 ?_|refine AH g2 ?_|refine AH g3 ?_|refine AH g4 ?_|refine AH c0 ?_)<;>try (simp -implicitDefEqProofs only[go_sem,AP,AF,AG,Am,Aa,Az,eq_false hbl]))|simp (disch:=omega) only[A7]|((with_reducible refine E7 ?_);refine⟨(_,_,_,_),rfl,?_,?_⟩)|((with_reducible refine BL ?_);refine⟨_,rfl,?_,?_⟩)
 by_cases h40:(40:Int)<(ds.length:Int)
 case pos =>
  rw[hk] at g2
  rw[hk2] at g4
  (try (simp -implicitDefEqProofs only[go_sem,AP,AF,AG,Am,Aa,Az,eq_true hbl,h40]));repeat' first|(with_reducible first|exact tI|refine aI ?_ ?_|intro _)|((first|with_reducible refine Ad ?_ ?_<;>intro _|(with_reducible refine isCall ?_);first|refine AH g1 ?_|refine AH g2 ?_|refine AH g3 ?_|refine AH g4 ?_|refine AH c0 ?_)<;>try (simp -implicitDefEqProofs only[go_sem,AP,AF,AG,Am,Aa,Az,eq_true hbl,h40]))|simp (disch:=omega) only[A7]|((with_reducible refine E7 ?_);refine⟨(_,_,_,_),rfl,?_,?_⟩)|((with_reducible refine BL ?_);refine⟨_,rfl,?_,?_⟩)
 rw[hk] at g2
 rw[hk2] at g4
 have hok:=check_ok hk
 obtain⟨b3,o7⟩:=cg hf hok
 have cb:=Ca hok
 (try (simp -implicitDefEqProofs only[go_sem,AP,AF,AG,Am,Aa,Az,eq_true hbl,h40]));repeat' first|(with_reducible first|exact tI|refine aI ?_ ?_|intro _)|((first|with_reducible refine Ad ?_ ?_<;>intro _|(with_reducible refine isCall ?_);first|refine AH g1 ?_|refine AH g2 ?_|refine AH g3 ?_|refine AH g4 ?_)<;>try (simp -implicitDefEqProofs only[go_sem,AP,AF,AG,Am,Aa,Az,eq_true hbl,h40]))|simp (disch:=omega) only[A7]|((with_reducible refine E7 ?_);refine⟨(_,_,_,_),rfl,?_,?_⟩)|((with_reducible refine BL ?_);refine⟨_,rfl,?_,?_⟩)
 all_goals first|omega|(simp<;>omega)|skip
 refine BZ (α:=Nat) (l0:=?l1) (m0:=?m1) (fun x=>[(7,.d (.int .i64 (x:Int)))]) (fun x=>[]) (fun x=>x<=l.slots.length/\∀j,j<x->l.slots[j]?.getD default=DZ) (fun x=>l.slots.length-x) 0 ?h01 ?he1 ?he21 ?hI1 ?step1
 case h01=>(simp -implicitDefEqProofs only[go_sem];rfl)
 case he1=>rfl
 case he21=>rfl
 case' step1=>(rintro i hI;try dsimp only at hI)
 case' hI1=>try dsimp only
 ·exact⟨Nat.zero_le _,fun j hj=>by omega⟩
 ·obtain⟨i1,i2⟩:=hI
  by_cases hi:i<l.slots.length
  ·have hi':(i:Int)<(l.slots.length:Int):=by omega
   have wi:IntKind.i64.wrap ((i:Int)+1)=((i+1:Nat):Int):=by rw[BN _ (by omega)];omega
   have cE:=IM
   obtain⟨r,hr⟩:∃r,l.slots[i]?.getD default=r:=⟨_,rfl⟩
   (try (simp -implicitDefEqProofs only[go_sem,AJ,Aq,An,A9,A8,hr,hi',hi,wi,Int.toNat_natCast,DZ]));repeat' first|(with_reducible first|exact tI|refine aI ?_ ?_|intro _)|((first|with_reducible refine Ad ?_ ?_<;>intro _|(with_reducible refine isCall ?_);first|refine AH cE ?_|refine AH c0 ?_)<;>try (simp -implicitDefEqProofs only[go_sem,AJ,Aq,An,A9,A8,hr,hi',hi,wi,Int.toNat_natCast,DZ]))|simp (disch:=omega) only[A7]|((with_reducible refine E7 ?_);refine⟨(_,_,_,_),rfl,?_,?_⟩)|((with_reducible refine BL ?_);refine⟨_,rfl,?_,?_⟩)
   all_goals first|omega|(
               rename_i hr5 j hj;by_cases hji:j=i
               ·subst hji;rw[hr];exact Yj hr5.1 hr5.2.1 hr5.2.2.1 hr5.2.2.2.1 hr5.2.2.2.2
               ·exact i2 j (by omega))|skip
  ·have hil:i=l.slots.length:=by omega
   subst hil
   have hi':¬(l.slots.length:Int)<(l.slots.length:Int):=by omega
   have hno:l.none':=i2
   have hgood:=SM hok
   (try (simp -implicitDefEqProofs only[go_sem,AJ,hi']));repeat' first|(with_reducible first|exact tI|refine aI ?_ ?_|intro _)|((first|with_reducible refine Ad ?_ ?_<;>intro _)<;>try (simp -implicitDefEqProofs only[go_sem,AJ,hi']))|simp (disch:=omega) only[A7]|((with_reducible refine E7 ?_);refine⟨(_,_,_,_),rfl,?_,?_⟩)|((with_reducible refine BL ?_);refine⟨_,rfl,?_,?_⟩)
   all_goals first|omega|(simp<;>omega)|skip
   refine BZ (α:=Nat×Bool×Int×((List Eb))) (l0:=?l2) (m0:=?m2) (fun x=>[(8,.own 99 0),(9,.d (.int .i64 x.2.2.1)),(10,.d (.int .i64 (x.1:Int)))]) (fun x=>[(99,.row 50 3 x.2.1 (Ow x.2.2.2))]) (fun x=>(x.1<=c.ords.length/\x.2.2.1=Hh c x.1)/\x.2.2.2=HR c x.1/\x.2.1=x.2.2.2.isEmpty) (fun x=>c.ords.length-x.1) (0,true,(-1),[]) ?h02 ?he2 ?he22 ?hI2 ?step2
   case h02=>(simp -implicitDefEqProofs only[go_sem];rfl)
   case he2=>rfl
   case he22=>rfl
   case' step2=>(rintro⟨n,nl,lp,L⟩ hI2;try dsimp only at hI2)
   case' hI2=>try dsimp only
   ·exact⟨⟨Nat.zero_le _,rfl⟩,rfl,rfl⟩
   ·obtain⟨⟨n1,n2⟩,n3,n4⟩:=hI2
    change lp=Hh c n at n2
    change L=HR c n at n3
    change nl=L.isEmpty at n4
    have nL:=SO c n
    by_cases hn:n<c.ords.length
    ·have hn':(n:Int)<(c.ords.length:Int):=by omega
     have wn:IntKind.i64.wrap ((n:Int)+1)=((n:Int)+1):=BN _ (by omega)
     have e1:HR c (n+1)=if (c.ords[n]?.getD default).puts=true then HR c n++[⟨(c.ords[n]?.getD default).blk,(n:Int)+1,0⟩] else HR c n:=rfl
     have e2:Hh c (n+1)=if (c.ords[n]?.getD default).puts=true then (n:Int) else Hh c n:=rfl
     obtain⟨o,ho⟩:∃o,c.ords[n]?.getD default=o:=⟨_,rfl⟩
     rw[ho] at e1 e2
     have cP:=Ge o
     rw[Ag,Ah] at cP
     have hll:L.length<=1000:=by rw[n3];omega
     cases hp:o.puts with
     |true =>
      rw[hp] at cP e1 e2
      rw[if_pos rfl] at e1 e2
      (try (simp -implicitDefEqProofs only[go_sem,AG,A_,BA,Ag,Ah,ho,hn',hn,wn,BE,CS,Int.toNat_natCast,PN]));repeat' first|(with_reducible first|exact tI|refine aI ?_ ?_|intro _)|((first|with_reducible refine Ad ?_ ?_<;>intro _|(with_reducible refine isCall ?_);first|refine AH cP ?_)<;>try (simp -implicitDefEqProofs only[go_sem,AG,A_,BA,Ag,Ah,ho,hn',hn,wn,BE,CS,Int.toNat_natCast,PN]))|simp (disch:=omega) only[A7]|((with_reducible refine E7 ?_);refine⟨(_,_,_,_),rfl,?_,?_⟩)|((with_reducible refine BL ?_);refine⟨_,rfl,?_,?_⟩)
      all_goals first|omega|exact e2.symm|(rw[n3];exact e1.symm)|(simp;done)|skip
     |false =>
      rw[hp] at cP e1 e2
      rw[if_neg (by decide)] at e1 e2
      (try (simp -implicitDefEqProofs only[go_sem,AG,A_,BA,Ag,Ah,ho,hn',hn,wn,BE,CS,Int.toNat_natCast]));repeat' first|(with_reducible first|exact tI|refine aI ?_ ?_|intro _)|((first|with_reducible refine Ad ?_ ?_<;>intro _|(with_reducible refine isCall ?_);first|refine AH cP ?_)<;>try (simp -implicitDefEqProofs only[go_sem,AG,A_,BA,Ag,Ah,ho,hn',hn,wn,BE,CS,Int.toNat_natCast]))|simp (disch:=omega) only[A7]|((with_reducible refine E7 ?_);refine⟨(_,_,_,_),rfl,?_,?_⟩)|((with_reducible refine BL ?_);refine⟨_,rfl,?_,?_⟩)
      all_goals first|omega|(rw[e2];exact n2)|(rw[e1];exact n3)|exact n4|skip
    ·have hnl:n=c.ords.length:=by omega
     subst hnl
     have hn':¬(c.ords.length:Int)<(c.ords.length:Int):=by omega
     have hLg:=hgood _ (Nat.le_refl _)
     rw[←n3] at hLg
     have hLb:∀e,e∈L->(0<=e.blk/\e.blk<=l.blocks-1)/\(0<=e.val/\e.val<=999)/\e.tail=0:=by rw[hbl];exact hLg
     have hL7:L.length<=7:=by rw[n3];omega
     have hop:=VR hno hk2
     have hE1:=OA hno hk2 hLb _ (Nat.le_refl _)
     have hE2:=Uj hop L L.length false (by omega) (fun h=>by cases h)
     rw[hE1] at hE2
     have cA:=Km l hs hz nl L
     rw[hE2] at cA
     by_cases hfit:L.length<=l.slots.length
     ·rw[if_pos hfit] at cA hE2
      obtain⟨F,hF⟩:∃F,l.cutL L L.length false=F:=⟨_,rfl⟩
      have hFd:F=l.op.setS (Kt l.slots L L.length false):=by rw[←hF,Ui hE2,Int.toNat_natCast]
      have hFs:F.sn=true->F.slots=[]:=by rw[←hF];exact Uh
      have hFz:F.disk.zn=true->F.disk.zones=[]:=by rw[←hF];exact Ug
      rw[hF] at cA
      have cPl:=Jb c hok b3 nd ds torn
      have cN:=Hp c hok
      obtain⟨NW,hNW⟩:∃NW,J1 c c.ords.length=NW:=⟨_,rfl⟩
      have hNl:NW.length=c.blocks.toNat:=by rw[←hNW,Ju]
      have hNr:∀b,b<c.blocks.toNat->-1<=NW[b]?.getD 0/\NW[b]?.getD 0<=16:=fun b hb=>by have:=N_ c hb c.ords.length;rw[hNW] at this;omega
      rw[hNW] at cN
      rw[AP,AF] at cPl cN
      rcases XB (ds:=ds) (torn:=torn) hok with hP|hP
      ·rw[if_pos hP,hP] at cPl
       have hall:=Zv hok hP
       obtain⟨him,_⟩:=Gg hP
       have hir:=fun b hb=>Px (ds:=ds) (torn:=torn) hok hP (b:=b) hb
       have hokF:=XZ hok hP (k:=F) (by rw[hFd];exact hbl)
       obtain⟨F1,F2,F3⟩:=Rx hno hk2 hLb hfit (Nat.le_refl _) false (fun h=>by cases h) (E8 (DW c ds torn) (DW c ds torn).length) F hFd
       have hcmp:=fun b hb=>R6 hP hok (b:=b) hb
       rw[List.take_length] at F2
       rw[←n3,←F2,hNW] at hcmp
       obtain⟨im,himd⟩:∃im,DW c ds torn=im:=⟨_,rfl⟩
       rw[himd] at cPl hall him hir hokF hcmp F2
       have cI:=LF c false im (by omega) (by omega) (by omega) hall
       rw[AP,AF] at cI
       have hml:(im.length:Int)=c.blocks:=by omega
       have hNl':(NW.length:Int)=c.blocks:=by omega
       simp only[Am,Aa] at cA
       (try (simp -implicitDefEqProofs only[go_sem,AP,AF,AG,AJ,BE,hn',hml,hNl']));repeat' first|(with_reducible first|exact tI|refine aI ?_ ?_|intro _)|((first|with_reducible refine Ad ?_ ?_<;>intro _|(with_reducible refine isCall ?_);first|refine AH cA ?_|refine AH cPl ?_|refine AH cN ?_|refine AH cI ?_)<;>try (simp -implicitDefEqProofs only[go_sem,AP,AF,AG,AJ,BE,hn',hml,hNl']))|simp (disch:=omega) only[A7]|((with_reducible refine E7 ?_);refine⟨(_,_,_,_),rfl,?_,?_⟩)|((with_reducible refine BL ?_);refine⟨_,rfl,?_,?_⟩)
       all_goals first|omega|(simp<;>omega)|skip
       have hH0:E8 im 0=List.replicate c.blocks.toNat 0:=by rw[E8,him]
       rw[←hH0]
       refine BZ (α:=Nat) (l0:=?l3) (m0:=?m3) (fun x=>[(18,.d (.int .i64 (x:Int)))]) (fun x=>[(160,.row 3 1 false (C6 (E8 im x)))]) (fun x=>x<=im.length) (fun x=>im.length-x) 0 ?h03 ?he3 ?he23 ?hI3 ?step3
       case h03=>(simp -implicitDefEqProofs only[go_sem];rfl)
       case he3=>rfl
       case he23=>rfl
       case' step3=>(rintro b hI3;try dsimp only at hI3)
       case' hI3=>try dsimp only
       ·exact Nat.zero_le _
       ·have hHl:=Gb im b
        by_cases hb:b<im.length
        ·have hb':(b:Int)<c.blocks:=by omega
         have hr:=hir b (by omega)
         have wb1:IntKind.i64.wrap ((b:Int)+1)=((b+1:Nat):Int):=by rw[BN _ (by omega)];omega
         have wb2:IntKind.i64.wrap (im[b]?.getD 0+1)=im[b]?.getD 0+1:=BN _ (by omega)
         have hnx:E8 im (b+1)=(E8 im b).set b (max 0 (im[b]?.getD 0+1)):=rfl
         (try (simp -implicitDefEqProofs only[go_sem,AP,AF,hb,hb',wb1,wb2,hHl,←hnx,Int.toNat_natCast]));repeat' first|(with_reducible first|exact tI|refine aI ?_ ?_|intro _)|((first|with_reducible refine Ad ?_ ?_<;>intro _)<;>try (simp -implicitDefEqProofs only[go_sem,AP,AF,hb,hb',wb1,wb2,hHl,←hnx,Int.toNat_natCast]))|simp (disch:=omega) only[A7]|((with_reducible refine E7 ?_);refine⟨(_,_,_,_),rfl,?_,?_⟩)|((with_reducible refine BL ?_);refine⟨_,rfl,?_,?_⟩)
         all_goals first|omega|exact .inl True.intro|skip
        ·have hbi:b=im.length:=by omega
         subst hbi
         have hb':¬(im.length:Int)<c.blocks:=by omega
         have cR:=FJ F hFs hFz false (E8 im im.length) (by intro h;cases h)
         rw[H3 F1,hokF,if_pos rfl,if_pos rfl] at cR
         have hVl:=Rh F (E8 im im.length)
         rw[Gb] at hVl
         obtain⟨V,hV⟩:∃V,F.repL (E8 im im.length)=V:=⟨_,rfl⟩
         rw[hV] at cR hVl hcmp
         have hVl':(V.length:Int)=c.blocks:=by omega
         rw[Am,Aa] at cR
         (try (simp -implicitDefEqProofs only[go_sem,AP,AF,hb',hVl']));repeat' first|(with_reducible first|exact tI|refine aI ?_ ?_|intro _)|((first|with_reducible refine Ad ?_ ?_<;>intro _|(with_reducible refine isCall ?_);first|refine AH cR ?_)<;>try (simp -implicitDefEqProofs only[go_sem,AP,AF,hb',hVl']))|simp (disch:=omega) only[A7]|((with_reducible refine E7 ?_);refine⟨(_,_,_,_),rfl,?_,?_⟩)|((with_reducible refine BL ?_);refine⟨_,rfl,?_,?_⟩)
         refine BZ (α:=Nat) (l0:=?l4) (m0:=?m4) (fun x=>[(21,.d (.int .i64 (x:Int)))]) (fun x=>[]) (fun x=>x<=im.length) (fun x=>im.length-x) 0 ?h04 ?he4 ?he24 ?hI4 ?step4
         case h04=>(simp -implicitDefEqProofs only[go_sem];rfl)
         case he4=>rfl
         case he24=>rfl
         case' step4=>(rintro q hI4;try dsimp only at hI4)
         case' hI4=>try dsimp only
         ·exact Nat.zero_le _
         ·by_cases hq:q<im.length
          ·have hq':(q:Int)<c.blocks:=by omega
           have wq:IntKind.i64.wrap ((q:Int)+1)=((q+1:Nat):Int):=by rw[BN _ (by omega)];omega
           have hcq:=hcmp q (by omega)
           have hnq:=hNr q (by omega)
           have wv:IntKind.i64.wrap (NW[q]?.getD 0+1)=NW[q]?.getD 0+1:=BN _ (by omega)
           (try (simp -implicitDefEqProofs only[go_sem,AP,AF,hq',wq,hcq,wv,hVl,hNl,Int.toNat_natCast]));repeat' first|(with_reducible first|exact tI|refine aI ?_ ?_|intro _)|((first|with_reducible refine Ad ?_ ?_<;>intro _)<;>try (simp -implicitDefEqProofs only[go_sem,AP,AF,hq',wq,hcq,wv,hVl,hNl,Int.toNat_natCast]))|simp (disch:=omega) only[A7]|((with_reducible refine E7 ?_);refine⟨(_,_,_,_),rfl,?_,?_⟩)|((with_reducible refine BL ?_);refine⟨_,rfl,?_,?_⟩)
           all_goals first|omega|skip
          ·have hbq:q=im.length:=by omega
           subst hbq
           rcases Pu c c.ords.length with⟨p1,p2⟩|⟨p1,x,p2⟩
           ·rw[←n2] at p1
            have p1':lp<0:=by omega
            (try (simp -implicitDefEqProofs only[go_sem,AP,AF,hb',p1']));repeat' first|(with_reducible first|exact tI|refine aI ?_ ?_|intro _)|((first|with_reducible refine Ad ?_ ?_<;>intro _|(with_reducible refine isCall ?_);first|refine AH c0 ?_)<;>try (simp -implicitDefEqProofs only[go_sem,AP,AF,hb',p1']))|simp (disch:=omega) only[A7]|((with_reducible refine E7 ?_);refine⟨(_,_,_,_),rfl,?_,?_⟩)|((with_reducible refine BL ?_);refine⟨_,rfl,?_,?_⟩)
           ·have hlr:=(Mr c c.ords.length).2
            rw[←n2] at p1 p2 hlr
            rw[←n3] at p2
            have p1':¬lp<0:=by omega
            have hLn:L.length=(HR c lp.toNat).length+1:=by rw[p2];simp
            have wL:IntKind.i64.wrap ((L.length:Int)-1)=(L.length:Int)-1:=BN _ (by omega)
            have cC:=Ic l hs hz nl L ((L.length:Int)-1) true
            have hE3:=Uj hop L ((L.length:Int)-1) true (by omega) (fun _=>by omega)
            rw[hE1,if_pos hfit] at hE3
            obtain⟨G,hG⟩:∃G,l.cutL L ((L.length:Int)-1) true=G:=⟨_,rfl⟩
            have hGd:G=l.op.setS (Kt l.slots L (L.length-1) true):=by rw[←hG,Ui hE3,show ((L.length:Int)-1).toNat=L.length-1 by omega]
            have hGs:G.sn=true->G.slots=[]:=by rw[←hG];exact Uh
            have hGz:G.disk.zn=true->G.disk.zones=[]:=by rw[←hG];exact Ug
            rw[hG,hE3] at cC
            obtain⟨G1,G2,G3⟩:=Rx hno hk2 hLb hfit (show L.length-1<=L.length by omega) true (fun _=>by omega) (List.replicate c.blocks.toNat 0) G hGd
            have hLt:L.take (L.length-1)=HR c lp.toNat:=by rw[hLn,Nat.add_sub_cancel,p2,List.take_left'];rfl
            rw[hLt] at G2
            have hcm2:=fun b hb=>TW hok (n:=lp.toNat) (by omega) (b:=b) hb
            rw[←G2] at hcm2
            have cK:=Nz c (by omega)
            have cM:=Hp (c.cut lp.toNat) (bd hok _)
            obtain⟨NX,hNX⟩:∃NX,J1 (c.cut lp.toNat) (c.cut lp.toNat).ords.length=NX:=⟨_,rfl⟩
            have hXl:NX.length=c.blocks.toNat:=by rw[←hNX,Ju];rfl
            have hXr:∀b,b<c.blocks.toNat->-1<=NX[b]?.getD 0/\NX[b]?.getD 0<=16:=fun b hb=>by
             have h1:=N_ (c.cut lp.toNat) (b:=b) hb (c.cut lp.toNat).ords.length
             have h2:(c.cut lp.toNat).ords.length<=c.ords.length:=by show (c.ords.take lp.toNat).length<=_;rw[List.length_take];omega
             rw[hNX] at h1;omega
            rw[hNX] at cM hcm2
            change D6 E0 Gz [.agg [.int .i64 c.blocks,.list false (Ib (c.ords.take lp.toNat))]] _ at cM
            have cS:=FJ G hGs hGz false (List.replicate c.blocks.toNat 0) (by intro h;cases h)
            rw[H3 G1,WW hok (k:=G) (by rw[hGd];exact hbl),if_pos rfl,if_pos rfl] at cS
            have hYl:=Rh G (List.replicate c.blocks.toNat 0)
            rw[List.length_replicate] at hYl
            obtain⟨Y,hY⟩:∃Y,G.repL (List.replicate c.blocks.toNat 0)=Y:=⟨_,rfl⟩
            rw[hY] at cS hYl hcm2
            have hYl':(Y.length:Int)=c.blocks:=by omega
            have hXl':(NX.length:Int)=c.blocks:=by omega
            simp only[Am,Aa] at cC cS
            rw[AP,AF,AP,AF] at cK
            have hlo:lp<=(c.ords.length:Int):=by omega
            (try (simp -implicitDefEqProofs only[go_sem,AP,AF,hb',p1',wL,BE,AG,BA,N5,hlo,hYl',hXl']));repeat' first|(with_reducible first|exact tI|refine aI ?_ ?_|intro _)|((first|with_reducible refine Ad ?_ ?_<;>intro _|(with_reducible refine isCall ?_);first|refine AH cC ?_|refine AH cK ?_|refine AH cM ?_|refine AH cS ?_)<;>try (simp -implicitDefEqProofs only[go_sem,AP,AF,hb',p1',wL,BE,AG,BA,N5,hlo,hYl',hXl']))|simp (disch:=omega) only[A7]|((with_reducible refine E7 ?_);refine⟨(_,_,_,_),rfl,?_,?_⟩)|((with_reducible refine BL ?_);refine⟨_,rfl,?_,?_⟩)
            all_goals first|omega|(simp<;>omega)|skip
            refine BZ (α:=Nat) (l0:=?l5) (m0:=?m5) (fun x=>[(29,.d (.int .i64 (x:Int)))]) (fun x=>[]) (fun x=>x<=im.length) (fun x=>im.length-x) 0 ?h05 ?he5 ?he25 ?hI5 ?step5
            case h05=>(simp -implicitDefEqProofs only[go_sem];rfl)
            case he5=>rfl
            case he25=>rfl
            case' step5=>(rintro j hI5;try dsimp only at hI5)
            case' hI5=>try dsimp only
            ·exact Nat.zero_le _
            ·by_cases hj:j<im.length
             ·have hj':(j:Int)<c.blocks:=by omega
              have wj:IntKind.i64.wrap ((j:Int)+1)=((j+1:Nat):Int):=by rw[BN _ (by omega)];omega
              have hcj:=hcm2 j (by omega)
              have hnj:=hXr j (by omega)
              have wv:IntKind.i64.wrap (NX[j]?.getD 0+1)=NX[j]?.getD 0+1:=BN _ (by omega)
              (try (simp -implicitDefEqProofs only[go_sem,AP,AF,hj',wj,hcj,wv,hYl,hXl,Int.toNat_natCast]));repeat' first|(with_reducible first|exact tI|refine aI ?_ ?_|intro _)|((first|with_reducible refine Ad ?_ ?_<;>intro _)<;>try (simp -implicitDefEqProofs only[go_sem,AP,AF,hj',wj,hcj,wv,hYl,hXl,Int.toNat_natCast]))|simp (disch:=omega) only[A7]|((with_reducible refine E7 ?_);refine⟨(_,_,_,_),rfl,?_,?_⟩)|((with_reducible refine BL ?_);refine⟨_,rfl,?_,?_⟩)
              all_goals first|omega|skip
             ·have hj':¬(j:Int)<c.blocks:=by omega
              (try (simp -implicitDefEqProofs only[go_sem,AP,AF,hj']));repeat' first|(with_reducible first|exact tI|refine aI ?_ ?_|intro _)|((first|with_reducible refine Ad ?_ ?_<;>intro _|(with_reducible refine isCall ?_);first|refine AH c0 ?_)<;>try (simp -implicitDefEqProofs only[go_sem,AP,AF,hj']))|simp (disch:=omega) only[A7]|((with_reducible refine E7 ?_);refine⟨(_,_,_,_),rfl,?_,?_⟩)|((with_reducible refine BL ?_);refine⟨_,rfl,?_,?_⟩)
      ·rw[hP,if_neg (by decide)] at cPl
       simp only[Am,Aa] at cA
       (try (simp -implicitDefEqProofs only[go_sem,AP,AF,AG,AJ,BE,hn']));repeat' first|(with_reducible first|exact tI|refine aI ?_ ?_|intro _)|((first|with_reducible refine Ad ?_ ?_<;>intro _|(with_reducible refine isCall ?_);first|refine AH cA ?_|refine AH cPl ?_|refine AH cN ?_|refine AH c0 ?_)<;>try (simp -implicitDefEqProofs only[go_sem,AP,AF,AG,AJ,BE,hn']))|simp (disch:=omega) only[A7]|((with_reducible refine E7 ?_);refine⟨(_,_,_,_),rfl,?_,?_⟩)|((with_reducible refine BL ?_);refine⟨_,rfl,?_,?_⟩)
     ·rw[if_neg hfit] at cA
      have hfit':(l.slots.length:Int)<(L.length:Int):=by omega
      obtain⟨F,hF⟩:∃F,l.cutL L L.length false=F:=⟨_,rfl⟩
      rw[hF] at cA
      simp only[Am,Aa] at cA
      (try (simp -implicitDefEqProofs only[go_sem,AG,AJ,BE,hn',hfit']));repeat' first|(with_reducible first|exact tI|refine aI ?_ ?_|intro _)|((first|with_reducible refine Ad ?_ ?_<;>intro _|(with_reducible refine isCall ?_);first|refine AH cA ?_|refine AH c0 ?_)<;>try (simp -implicitDefEqProofs only[go_sem,AG,AJ,BE,hn',hfit']))|simp (disch:=omega) only[A7]|((with_reducible refine E7 ?_);refine⟨(_,_,_,_),rfl,?_,?_⟩)|((with_reducible refine BL ?_);refine⟨_,rfl,?_,?_⟩)
end Go.Pw
end

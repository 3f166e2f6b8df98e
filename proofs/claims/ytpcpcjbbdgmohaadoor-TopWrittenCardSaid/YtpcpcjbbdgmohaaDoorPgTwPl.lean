/- A part of the proof. -/
import Derived.Test.YtpcpcjbbdgmohaaDoorPgTwWds
import Derived.Test.YtpcpcjbbdgmohaaDoorTwCnt
import Derived.Test.YtpcpcjbbdgmohaaDoorPgTwcU
import Derived.Test.YtpcpcjbbdgmohaaDoorPgTwrN
import Derived.Test.YtpcpcjbbdgmohaaDoorPgTwcD
import Derived.Test.YtpcpcjbbdgmohaaDoorPgTwcA
import Derived.Test.YtpcpcjbbdgmohaaDoorPgTwcM
set_option linter.all false
open Go Go.Pw Go.Proofs
namespace Go.Pw
set_option maxRecDepth 100000
set_option maxHeartbeats 3200000
theorem WJ {n:Nat}{sy:Int}{out:List Int}(h:BR out=true) (hn:out.length=n) (h0:0<n) (f:Int):BR (Ld n sy out f)=true:=by
 unfold Ld
 split
 ·refine Sj h _ ?_
  have h1:=Int.emod_nonneg f (show (n:Int)≠0 by omega)
  have h2:=Int.emod_lt_of_pos f (show (0:Int)<n by omega)
  have:=M0 h (i:=(f%n).toNat) (by omega)
  simp only[Dp,decide_eq_true_eq];omega
 ·exact h
theorem J3 {n:Nat}{sy:Int}(h0:0<n):∀(l:List Int) {bits:List Int},BR bits=true->bits.length=n->BR (Lc n sy bits l)=true
 |[],_,h,_=>h
 |f::l,bits,h,hn=>J3 h0 l (WJ h hn h0 f) (by rw[SJ,hn])
theorem U9 {c:GCode}(hc:c.ok=true) {now:List Int}(hb:BR now=true) (hl:now.length=c.sz) :
  (∃l,c.decR 0 now=(some l,0)/\l.length=4/c.bits.toNat/\∀w,w∈l->c.isWord w=true)\/c.decR 0 now=(none,3):=by
 have hd:=GCode.ok_head hc
 have h12:=NY hc
 have hs:c.sz=4/c.bits.toNat * c.out.toNat:=rfl
 have ho:1<=c.out.toNat/\c.out.toNat<=5:=by omega
 have hK:now.length/c.out.toNat=4/c.bits.toNat:=by rw[hl,hs];exact Nat.mul_div_cancel _ (by omega)
 have hi:(now.length:Int)=c.out*((4/c.bits.toNat:Nat):Int):=by
  rw[hl,hs,Nat.mul_comm];push_cast;rw[Int.toNat_of_nonneg (by omega)]
 have h4:4/c.bits.toNat<=4:=Nat.div_le_self _ _
 have hg:(BR now && decide ((now.length:Int).tmod c.out=0) && decide ((now.length:Int)<=c.out*24))=true:=by
  rw[hb,hi]
  have e1:0<=c.out*((4/c.bits.toNat:Nat):Int):=Int.mul_nonneg (by omega) (Int.natCast_nonneg _)
  rw[Int.tmod_eq_emod_of_nonneg e1,Int.mul_emod_right,decide_eq_true (rfl:(0:Int)=0),decide_eq_true (Int.mul_le_mul_of_nonneg_left (by omega) (by omega))];rfl
 rw[U_ c 0 now hc (H2 hc) _ hK hg]
 cases hp:c.decP now (4/c.bits.toNat) 0 0 with
 |none=>exact .inr rfl
 |some l =>
  obtain⟨h1,h2,_⟩:=MZ c hc now _ 0 0 l (Int.le_refl _) (by rw[hi,Int.zero_add,Int.mul_comm]) hp
  exact .inl ⟨l,rfl,h1,h2⟩
theorem NT {c:GCode}(hc:c.ok=true) (s:Nat):∃l,c.decR 0 (c.stm s)=(some l,0)/\l.length=4/c.bits.toNat/\(∀w,w∈l->c.isWord w=true)/\(c.order.2=0->c.order.1=1->l=J9 c.bits.toNat s):=by
 have hd:=GCode.ok_head hc
 obtain⟨l,h1,h2,h3,h4⟩:=SZ c hc (s:=0) (data:=J9 c.bits.toNat (s:Int)) (Kg hc s)
 have h5:=(NU c (c.stm s) (J9 c.bits.toNat (s:Int)).length (J9 c.bits.toNat (s:Int)).length 0 0 [] (by omega) fun e he=>by cases he).1
 rw[FA] at h2 h5
 rw[FA] at h1
 have h6:c.decP (c.stm s) (4/c.bits.toNat) 0 0=some l:=by rw[←h5];exact h1
 have hdr:c.decR 0 (c.stm s)=(some l,0):=by
  have hs:c.sz=4/c.bits.toNat * c.out.toNat:=rfl
  have hl:=NK c s
  have ho:1<=c.out.toNat/\c.out.toNat<=5:=by omega
  have hK:(c.stm s).length/c.out.toNat=4/c.bits.toNat:=by rw[hl,hs];exact Nat.mul_div_cancel _ (by omega)
  have hi:((c.stm s).length:Int)=c.out*((4/c.bits.toNat:Nat):Int):=by
   rw[hl,hs,Nat.mul_comm];push_cast;rw[Int.toNat_of_nonneg (by omega)]
  have h4:4/c.bits.toNat<=4:=Nat.div_le_self _ _
  have hg:(BR (c.stm s) && decide (((c.stm s).length:Int).tmod c.out=0) && decide (((c.stm s).length:Int)<=c.out*24))=true:=by
   rw[GU,hi]
   have e1:0<=c.out*((4/c.bits.toNat:Nat):Int):=Int.mul_nonneg (by omega) (Int.natCast_nonneg _)
   rw[Int.tmod_eq_emod_of_nonneg e1,Int.mul_emod_right,decide_eq_true (rfl:(0:Int)=0),decide_eq_true (Int.mul_le_mul_of_nonneg_left (by omega) (by omega))];rfl
  rw[U_ c 0 _ hc (H2 hc) _ hK hg,h6]
 refine⟨l,hdr,h2,h3,fun e1 e2=>?_⟩
 apply List.ext_getElem
 ·rw[h2,FA]
 ·intro i i1 i2
  have h7:=Pa c hc e1 l (J9 c.bits.toNat (s:Int)) 0 (H2 hc) (by rw[h2,FA]) h4 h3 (Kg hc s) i (by rw[e2];omega)
  rw[List.getElem?_eq_getElem i1,List.getElem?_eq_getElem i2] at h7
  exact h7
def go (c:GCode) (fl:List Int) (i s:Nat):Option (List Int):=(c.decR 0 (Lc c.sz i (c.stm s) fl)).1
def Zx (b:Nat):Option (List Int)->Int
 |some l=>Fl b l
 |none=>0
theorem XG {c:GCode}(hc:c.ok=true) {l:List Int}(hl:l.length=4/c.bits.toNat) (h:∀w,w∈l->c.isWord w=true):0<=Fl c.bits.toNat l/\Fl c.bits.toNat l<=15 :=
 XN (NY hc) hl fun w hw=>by
  have:=h w hw
  simpa[GCode.isWord,Dp] using this
section
theorem bJ {l:List Int}(h:∀x,x∈A4 l->x.WF):∀i,i<l.length->-9223372036854775808<=l[i]?.getD 0/\l[i]?.getD 0<=9223372036854775807:=fun i hi=>by
 have h1:=h (.int .i64 (l[i]?.getD 0)) (by simp only[A4,List.mem_map];exact⟨_,D7 hi,rfl⟩)
 have h2:J7 .i64 (l[i]?.getD 0):=by simpa[Dt] using h1
 rw[DD] at h2;exact h2
attribute [local congr] Bx A9 A_ Au Bz A0 A2 A1 Ar An Ai Ab Av Aj Ax BG BK BI BJ BH BL BD Ay Aw Al Az Am BB BT Ak BE BF BC A' BA B1
attribute [local irreducible] IntKind.wrap BM Option.getD and or
theorem IZ (n1 n2:Bool) (bits fl:List Int) (i:Nat) (hb:BR bits=true) (h0:0<bits.length) (hl:bits.length<=100):DE E0 KY [.list n1 (A4 bits),.list n2 (A4 fl),.int .i64 (i:Int)] (.list false (A4 (Lc bits.length (i:Int) bits fl))):=by
 have hne:¬bits=[]:=fun e=>by rw[e] at h0;cases h0
 have hn0:¬(bits.length:Int)=0:=by omega
 refine AP M_ A5 (by simp) fun hwf=>?_
 simp only[Dt,DM,DL,DC,EK,EJ,Fk,EI,Be,Br,Bs,DD,CC,List.length_map,CK,true_and,and_true] at hwf
 rw[AU];unfold JN
 (try (simp -implicitDefEqProofs only[go_sem,hne]));repeat' first|(with_reducible first|exact tI|refine aI ?_ ?_|intro _)|((first|with_reducible refine AN ?_ ?_<;>intro _)<;>try (simp -implicitDefEqProofs only[go_sem,hne]))|simp (disch:=omega) only[Ap]|((with_reducible refine AZ ?_);refine⟨(_,_),rfl,?_,?_⟩)
 all_goals first|omega|(simp<;>omega)|skip
 have hlF:=N' bits.length (i:Int)
 refine AX (α:=Nat×(List Int)) (l0:=?l1) (m0:=?m1) (fun x=>[(8,.d (.int .i64 (x.1:Int)))]) (fun x=>[(11,.row 3 1 false (A4 x.2))]) (fun x=>x.1<=fl.length/\x.2=Lc bits.length (i:Int) bits (fl.take x.1)) (fun x=>fl.length-x.1) (0,bits) ?h01 ?he1 ?he21 ?hI1 ?step1
 case h01=>(simp -implicitDefEqProofs only[go_sem];rfl)
 case he1=>rfl
 case he21=>rfl
 case' step1=>(rintro⟨k,R⟩ hI;try dsimp only at hI)
 case' hI1=>try dsimp only
 ·exact⟨Nat.zero_le _,rfl⟩
 ·obtain⟨k1,k2⟩:=hI
  change R=Lc bits.length (i:Int) bits (fl.take k) at k2
  have hRl:R.length=bits.length:=by rw[k2,hlF]
  have hRb:BR R=true:=by rw[k2];exact J3 h0 _ hb rfl
  by_cases hk:k<fl.length
  ·have hk':(k:Int)<(fl.length:Int):=by omega
   have hwk:IntKind.i64.wrap ((k:Int)+1)=((k+1:Nat):Int):=by rw[Af _ (by omega)];omega
   have hfb:-9223372036854775808<=fl[k]?.getD 0/\fl[k]?.getD 0<=9223372036854775807:=bJ hwf.2.1.2 k hk
   obtain⟨f,hf⟩:∃f,fl[k]?.getD 0=f:=⟨_,rfl⟩
   rw[hf] at hfb
   have hst:Ld bits.length (i:Int) R f=Lc bits.length (i:Int) bits (fl.take (k+1)):=by
    rw[k2,←WI,←hf,List.take_add_one,List.getElem?_eq_getElem hk];simp[Option.getD]
   by_cases hf0:0<=f
   ·have hd0:f.tdiv (bits.length:Int)=f/(bits.length:Int):=Int.tdiv_eq_ediv_of_nonneg hf0
    have hm0:f.tmod (bits.length:Int)=f%(bits.length:Int):=Int.tmod_eq_emod_of_nonneg hf0
    have hd1:0<=f/(bits.length:Int):=Int.ediv_nonneg hf0 (by omega)
    have hd2:f/(bits.length:Int)<=f:=Int.ediv_le_self _ hf0
    have hm1:=Int.emod_nonneg f hn0
    have hm2:=Int.emod_lt_of_pos f (show (0:Int)<(bits.length:Int) by omega)
    have hwd:IntKind.i64.wrap (f/(bits.length:Int))=f/(bits.length:Int):=Af _ (by omega)
    have hwm:IntKind.i64.wrap (f%(bits.length:Int))=f%(bits.length:Int):=Af _ (by omega)
    by_cases h1:f/(bits.length:Int)=(i:Int)
    ·obtain⟨m,hm⟩:∃m:Nat,f%(bits.length:Int)=(m:Int):=⟨(f%(bits.length:Int)).toNat,by omega⟩
     have hml:m<R.length:=by omega
     have hwi2:IntKind.i64.wrap (i:Int)=(i:Int):=Af _ (by omega)
     have hml':(m:Int)<(bits.length:Int):=by omega
     have hv:=M0 hRb (i:=m) (by omega)
     have hwv:IntKind.i64.wrap (1-R[m]?.getD 0)=1-R[m]?.getD 0:=Af _ (by omega)
     have hs2:Ld bits.length (i:Int) R f=R.set m (1-R[m]?.getD 0):=by unfold Ld;rw[if_pos ⟨hf0,h1⟩,hm,Int.toNat_natCast]
     rw[hm] at hm0 hwm
     (try (simp -implicitDefEqProofs only[go_sem,hk',hk,hwk,hf,hf0,hn0,hd0,hm0,hwd,hwm,h1,hwi2,hml,hRl,hml',hwv]));repeat' first|(with_reducible first|exact tI|refine aI ?_ ?_|intro _)|((first|with_reducible refine AN ?_ ?_<;>intro _)<;>try (simp -implicitDefEqProofs only[go_sem,hk',hk,hwk,hf,hf0,hn0,hd0,hm0,hwd,hwm,h1,hwi2,hml,hRl,hml',hwv]))|simp (disch:=omega) only[Ap]|((with_reducible refine AZ ?_);refine⟨(_,_),rfl,?_,?_⟩)
     all_goals first|omega|(simp<;>omega)|skip
     all_goals rw[←hs2,hst]
    ·have hs2:Ld bits.length (i:Int) R f=R:=by unfold Ld;rw[if_neg fun h=>h1 h.2]
     (try (simp -implicitDefEqProofs only[go_sem,hk',hk,hwk,hf,hf0,hn0,hd0,hwd,h1]));repeat' first|(with_reducible first|exact tI|refine aI ?_ ?_|intro _)|((first|with_reducible refine AN ?_ ?_<;>intro _)<;>try (simp -implicitDefEqProofs only[go_sem,hk',hk,hwk,hf,hf0,hn0,hd0,hwd,h1]))|simp (disch:=omega) only[Ap]|((with_reducible refine AZ ?_);refine⟨(_,_),rfl,?_,?_⟩)
     all_goals first|omega|(simp<;>omega)|skip
     all_goals rw[←hst,hs2]
   ·have hs2:Ld bits.length (i:Int) R f=R:=by unfold Ld;rw[if_neg fun h=>hf0 h.1]
    (try (simp -implicitDefEqProofs only[go_sem,hk',hk,hwk,hf,hf0]));repeat' first|(with_reducible first|exact tI|refine aI ?_ ?_|intro _)|((first|with_reducible refine AN ?_ ?_<;>intro _)<;>try (simp -implicitDefEqProofs only[go_sem,hk',hk,hwk,hf,hf0]))|simp (disch:=omega) only[Ap]|((with_reducible refine AZ ?_);refine⟨(_,_),rfl,?_,?_⟩)
    all_goals first|omega|(simp<;>omega)|skip
    all_goals rw[←hst,hs2]
  ·have hk':¬(k:Int)<(fl.length:Int):=by omega
   have hte:fl.take k=fl:=List.take_of_length_le (by omega)
   rw[hte] at k2
   rw[←k2]
   (try (simp -implicitDefEqProofs only[go_sem,hk']));repeat' first|(with_reducible first|exact tI|refine aI ?_ ?_|intro _)|((first|with_reducible refine AN ?_ ?_<;>intro _)<;>try (simp -implicitDefEqProofs only[go_sem,hk']))|simp (disch:=omega) only[Ap]|((with_reducible refine AZ ?_);refine⟨(_,_),rfl,?_,?_⟩)
   all_goals first|omega|(simp<;>omega)|skip
   all_goals first|rfl|skip
theorem IY:DE E0 KX [] (.bool true):=by
 have c1:=LX
 have c2:=K5 5 2 false [1,2,3]
 have c3:=LY
 have c4:=Fe Ev 0 false [1,0,1]
 have e1:Wi 5 2 [1,2,3]=[1,2,3,4,(Wi 5 2 [1,2,3])[4]?.getD 0]:=by decide +kernel
 have e2:eM 5 2 [1,2,3]=0:=by decide +kernel
 have e3:Ev.encode 0 [1,0,1]=((Ev.encode 0 [1,0,1]).1,1,0):=by decide +kernel
 have e4:(Ev.encode 0 [1,0,1]).1=[((Ev.encode 0 [1,0,1]).1)[0]?.getD 0,1,((Ev.encode 0 [1,0,1]).1)[2]?.getD 0,((Ev.encode 0 [1,0,1]).1)[3]?.getD 0,((Ev.encode 0 [1,0,1]).1)[4]?.getD 0,((Ev.encode 0 [1,0,1]).1)[5]?.getD 0]:=by decide +kernel
 obtain⟨x,hx⟩:∃x,(Wi 5 2 [1,2,3])[4]?.getD 0=x:=⟨_,rfl⟩
 rw[hx] at e1
 rw[e1,e2] at c2
 obtain⟨y0,h0⟩:∃y,((Ev.encode 0 [1,0,1]).1)[0]?.getD 0=y:=⟨_,rfl⟩
 obtain⟨y2,h2⟩:∃y,((Ev.encode 0 [1,0,1]).1)[2]?.getD 0=y:=⟨_,rfl⟩
 obtain⟨y3,h3⟩:∃y,((Ev.encode 0 [1,0,1]).1)[3]?.getD 0=y:=⟨_,rfl⟩
 obtain⟨y4,h4⟩:∃y,((Ev.encode 0 [1,0,1]).1)[4]?.getD 0=y:=⟨_,rfl⟩
 obtain⟨y5,h5⟩:∃y,((Ev.encode 0 [1,0,1]).1)[5]?.getD 0=y:=⟨_,rfl⟩
 rw[h0,h2,h3,h4,h5] at e4
 rw[e3] at c4
 simp only[e4] at c4
 have hl:A4 [1,2,3]=[.int .i64 1,.int .i64 2,.int .i64 3]:=rfl
 have hl2:A4 [1,0,1]=[.int .i64 1,.int .i64 0,.int .i64 1]:=rfl
 have hl3:A4 [1,2,3,4,x]=[.int .i64 1,.int .i64 2,.int .i64 3,.int .i64 4,.int .i64 x]:=rfl
 have hl4:A4 [y0,1,y2,y3,y4,y5]=[.int .i64 y0,.int .i64 1,.int .i64 y2,.int .i64 y3,.int .i64 y4,.int .i64 y5]:=rfl
 rw[hl,hl3] at c2
 rw[hl2,hl4] at c4
 refine AP M9 A5 (by simp) fun hwf=>?_
 rw[AU];unfold JM
 (try (simp -implicitDefEqProofs only[go_sem,AH,AF]));repeat' first|(with_reducible first|exact tI|refine aI ?_ ?_|intro _)|((first|with_reducible refine AN ?_ ?_<;>intro _|(with_reducible refine isCall ?_);first|refine AG c1 ?_|refine AG c2 ?_|refine AG c3 ?_|refine AG c4 ?_)<;>try (simp -implicitDefEqProofs only[go_sem,AH,AF]))|simp (disch:=omega) only[Ap]
 all_goals first|rfl|omega|skip
end
end Go.Pw

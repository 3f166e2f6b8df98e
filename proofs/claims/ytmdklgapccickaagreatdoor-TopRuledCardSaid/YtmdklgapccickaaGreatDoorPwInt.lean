/- A part of the proof. -/
import Derived.Test.YtmdklgapccickaaGreatDoorPwVC
set_option linter.all false
namespace Go.Pw
theorem eO (a:Int) (k:Nat):a.fdiv (2^k)=a/2^k:=by
 rw[Int.fdiv_eq_ediv_of_nonneg]
 exact Int.pow_nonneg (by omega)
theorem Z2 (x:Int):A0 .and .i64 x 1=x%2:=by
 have h:(BitVec.ofInt 64 x &&& BitVec.ofInt 64 1).toNat=(x%2).toNat:=by
  have h1:(BitVec.ofInt 64 (1:Int)).toNat=1:=by decide
  rw[BitVec.toNat_and,h1,Nat.and_one_is_mod,BitVec.toNat_ofInt]
  omega
 show IntKind.i64.wrap (((BitVec.ofInt 64 x &&& BitVec.ofInt 64 1).toNat:Nat):Int)=_
 rw[h,Bd]<;>omega
theorem ZP {x y:Int}(hx:x=0\/x=1) (hy:y=0\/y=1):A0 .xor .i64 x y=if x=y then 0 else 1:=by
 rcases hx with rfl|rfl<;>rcases hy with rfl|rfl<;>decide
theorem ZQ (n:Int) (h:0<=n/\n<=18446744073709551615):IntKind.u64.wrap n=n:=by rw[IntKind.wrap_u64];omega
theorem Ry {k:Nat}(h:k<=62):(2:Int)^k<=4611686018427387904:=by
 have:(2:Nat)^k<=2^62:=Nat.pow_le_pow_right (by omega) h
 have h2:((2^k:Nat):Int)=(2:Int)^k:=by simp
 have h3:(2:Nat)^62=4611686018427387904:=by decide
 omega
theorem Rx (k:Nat):(1:Int)<=(2:Int)^k:=by
 have:0<(2:Int)^k:=Int.pow_pos (by omega)
 omega
theorem me (b:Int) (h:0<=b/\b<=62):IntKind.i64.wrap (1*2^min b.toNat IntKind.i64.bits)=2^b.toNat:=by
 have hm:min b.toNat IntKind.i64.bits=b.toNat:=by
  have:IntKind.i64.bits=64:=rfl
  rw[this];omega
 rw[hm,Int.one_mul,Bd]
 have:=Ry (k:=b.toNat) (by omega)
 have:=Rx b.toNat
 omega
theorem pJ (a b:Int) (h:0<=b/\b<=64):a.fdiv (2^min b.toNat IntKind.i64.bits)=a/2^b.toNat:=by
 have hm:min b.toNat IntKind.i64.bits=b.toNat:=by
  have:IntKind.i64.bits=64:=rfl
  rw[this];omega
 rw[hm,eO]
theorem pK (b:Int) (h:0<=b/\b<=62):IntKind.i64.wrap (1*2^min b.toNat 64)=2^b.toNat:=me b h
theorem md (b:Int) (h:0<=b/\b<=62):IntKind.i64.wrap (2^min b.toNat 64)=2^b.toNat:=by
 have:=me b h;rwa [Int.one_mul] at this
theorem pI (a b:Int) (h:0<=b/\b<=64):a.fdiv (2^min b.toNat 64)=a/2^b.toNat:=pJ a b h
theorem Jt {b:Int}(h:1<=b/\b<=2):(b.toNat=1/\(2:Int)^b.toNat=2/\(2:Nat)^b.toNat=2)\/(b.toNat=2/\(2:Int)^b.toNat=4/\(2:Nat)^b.toNat=4):=by
 have:b=1\/b=2:=by omega
 rcases this with rfl|rfl
 ·exact .inl ⟨rfl,rfl,rfl⟩
 ·exact .inr ⟨rfl,rfl,rfl⟩
theorem IE:(∀(n:Int),-9223372036854775808<=n/\n<=9223372036854775807->IntKind.i64.wrap n=n)/\(∀(n:Int),0<=n/\n<=18446744073709551615->IntKind.u64.wrap n=n)/\(∀(b:Int),0<=b/\b<=62->IntKind.i64.wrap (1*2^min b.toNat IntKind.i64.bits)=2^b.toNat)/\(∀(b:Int),0<=b/\b<=62->IntKind.i64.wrap (1*2^min b.toNat 64)=2^b.toNat)/\(∀(b:Int),0<=b/\b<=62->IntKind.i64.wrap (2^min b.toNat 64)=2^b.toNat)/\(∀(a b:Int),0<=b/\b<=64->a.fdiv (2^min b.toNat IntKind.i64.bits)=a/2^b.toNat)/\(∀(a b:Int),0<=b/\b<=64->a.fdiv (2^min b.toNat 64)=a/2^b.toNat)/\∀(x:Int),A0 .and .i64 x 1=x%2:=⟨Bd,ZQ,me,pK,md,pJ,pI,Z2⟩
theorem Mi {i:Nat}(h:i<9223372036854775807):IntKind.i64.wrap ((i:Int)+1)=((i+1:Nat):Int):=by rw[Bd _ (by omega)];omega
theorem S2 {P:Prop}(p:P):P/\True:=⟨p,trivial⟩
theorem VV {P:Prop}(h:P:=by(first|((with_reducible refine ll ?_);refine⟨(_,_,_,_,_,_,_,_),rfl,?_,?_⟩)|((fail_if_success (with_reducible refine ll ?_));(with_reducible refine ln ?_);refine⟨(_,_,_,_,_,_,_),rfl,?_,?_⟩)|((fail_if_success (with_reducible refine ln ?_));(with_reducible refine lp ?_);refine⟨(_,_,_,_,_,_),rfl,?_,?_⟩)|((fail_if_success (with_reducible refine lp ?_));(with_reducible refine ff ?_);refine⟨(_,_,_,_,_),rfl,?_,?_⟩)|((fail_if_success (with_reducible refine ff ?_));(with_reducible refine lq ?_);refine⟨(_,_,_,_),rfl,?_,?_⟩)|((fail_if_success (with_reducible refine lq ?_));(with_reducible refine fg ?_);refine⟨(_,_,_),rfl,?_,?_⟩)|((fail_if_success (with_reducible refine fg ?_));(with_reducible refine Zj ?_);refine⟨(_,_),rfl,?_,?_⟩)|((fail_if_success (with_reducible refine Zj ?_));(with_reducible refine pp ?_);refine⟨_,rfl,?_,?_⟩)|((with_reducible refine lh ?_);refine⟨(_,_,_,_),rfl,?_⟩)|((fail_if_success (with_reducible refine lh ?_));(with_reducible refine lj ?_);refine⟨(_,_,_),rfl,?_⟩)|((fail_if_success (with_reducible refine lj ?_));(with_reducible refine lk ?_);refine⟨(_,_),rfl,?_⟩)|((fail_if_success (with_reducible refine lk ?_));(with_reducible refine po ?_);refine⟨_,rfl,?_⟩));all_goals (rcases S2 _ with⟨z,_⟩;exact z)):P:=h
theorem CQ {P:Prop}(h:P:=by(with_reducible refine isCall ?_);all_goals (rcases S2 _ with⟨z,_⟩;exact z)):P:=h
theorem CP {P:Prop}(h:P:=by(with_reducible refine isCall ?_);simp (disch:=omega) only[IE];all_goals (rcases S2 _ with⟨z,_⟩;exact z)):P:=h
theorem Ca {P:Prop}(h:P:=by first|omega|(simp<;>omega)):P:=h
theorem HO {P:Prop}(h:P:=by(try simp -implicitDefEqProofs only[go_sem]);(repeat' first|(with_reducible first|exact tI|refine aI ?_ ?_|intro _)|((with_reducible refine Gs ?_ ?_<;>intro _)<;>try simp -implicitDefEqProofs only[go_sem])|simp (disch:=omega) only[IE]|refine' VV|done);all_goals (rcases S2 _ with⟨z,_⟩;exact z)):P:=h
theorem K5 {A1 P:Prop}(a1:A1) (h:A1->P:=by intro z1;(try simp -implicitDefEqProofs only[go_sem,z1]);(repeat' first|(with_reducible first|exact tI|refine aI ?_ ?_|intro _)|((with_reducible refine Gs ?_ ?_<;>intro _)<;>try simp -implicitDefEqProofs only[go_sem,z1])|simp (disch:=omega) only[IE]|refine' VV|done);all_goals (clear z1;rcases S2 _ with⟨z,_⟩;exact z)):P:=h a1
theorem Pc {A1 A2 P:Prop}(a1:A1) (a2:A2) (h:A1->A2->P:=by intro z1 z2;(try simp -implicitDefEqProofs only[go_sem,z1,z2]);(repeat' first|(with_reducible first|exact tI|refine aI ?_ ?_|intro _)|((with_reducible refine Gs ?_ ?_<;>intro _)<;>try simp -implicitDefEqProofs only[go_sem,z1,z2])|simp (disch:=omega) only[IE]|refine' VV|done);all_goals (clear z1 z2;rcases S2 _ with⟨z,_⟩;exact z)):P:=h a1 a2
theorem Pb {A1 A2 A3 P:Prop}(a1:A1) (a2:A2) (a3:A3) (h:A1->A2->A3->P:=by intro z1 z2 z3;(try simp -implicitDefEqProofs only[go_sem,z1,z2,z3]);(repeat' first|(with_reducible first|exact tI|refine aI ?_ ?_|intro _)|((with_reducible refine Gs ?_ ?_<;>intro _)<;>try simp -implicitDefEqProofs only[go_sem,z1,z2,z3])|simp (disch:=omega) only[IE]|refine' VV|done);all_goals (clear z1 z2 z3;rcases S2 _ with⟨z,_⟩;exact z)):P:=h a1 a2 a3
theorem fY {A1 A2 A3 A4 P:Prop}(a1:A1) (a2:A2) (a3:A3) (a4:A4) (h:A1->A2->A3->A4->P:=by intro z1 z2 z3 z4;(try simp -implicitDefEqProofs only[go_sem,z1,z2,z3,z4]);(repeat' first|(with_reducible first|exact tI|refine aI ?_ ?_|intro _)|((with_reducible refine Gs ?_ ?_<;>intro _)<;>try simp -implicitDefEqProofs only[go_sem,z1,z2,z3,z4])|simp (disch:=omega) only[IE]|refine' VV|done);all_goals (clear z1 z2 z3 z4;rcases S2 _ with⟨z,_⟩;exact z)):P:=h a1 a2 a3 a4
theorem Zg {A1 A2 A3 A4 A5 P:Prop}(a1:A1) (a2:A2) (a3:A3) (a4:A4) (a5:A5) (h:A1->A2->A3->A4->A5->P:=by intro z1 z2 z3 z4 z5;(try simp -implicitDefEqProofs only[go_sem,z1,z2,z3,z4,z5]);(repeat' first|(with_reducible first|exact tI|refine aI ?_ ?_|intro _)|((with_reducible refine Gs ?_ ?_<;>intro _)<;>try simp -implicitDefEqProofs only[go_sem,z1,z2,z3,z4,z5])|simp (disch:=omega) only[IE]|refine' VV|done);all_goals (clear z1 z2 z3 z4 z5;rcases S2 _ with⟨z,_⟩;exact z)):P:=h a1 a2 a3 a4 a5
theorem pf {A1 A2 A3 A4 A5 A6 P:Prop}(a1:A1) (a2:A2) (a3:A3) (a4:A4) (a5:A5) (a6:A6) (h:A1->A2->A3->A4->A5->A6->P:=by intro z1 z2 z3 z4 z5 z6;(try simp -implicitDefEqProofs only[go_sem,z1,z2,z3,z4,z5,z6]);(repeat' first|(with_reducible first|exact tI|refine aI ?_ ?_|intro _)|((with_reducible refine Gs ?_ ?_<;>intro _)<;>try simp -implicitDefEqProofs only[go_sem,z1,z2,z3,z4,z5,z6])|simp (disch:=omega) only[IE]|refine' VV|done);all_goals (clear z1 z2 z3 z4 z5 z6;rcases S2 _ with⟨z,_⟩;exact z)):P:=h a1 a2 a3 a4 a5 a6
theorem rv {A1 A2 A3 A4 A5 A6 A7 P:Prop}(a1:A1) (a2:A2) (a3:A3) (a4:A4) (a5:A5) (a6:A6) (a7:A7) (h:A1->A2->A3->A4->A5->A6->A7->P:=by intro z1 z2 z3 z4 z5 z6 z7;(try simp -implicitDefEqProofs only[go_sem,z1,z2,z3,z4,z5,z6,z7]);(repeat' first|(with_reducible first|exact tI|refine aI ?_ ?_|intro _)|((with_reducible refine Gs ?_ ?_<;>intro _)<;>try simp -implicitDefEqProofs only[go_sem,z1,z2,z3,z4,z5,z6,z7])|simp (disch:=omega) only[IE]|refine' VV|done);all_goals (clear z1 z2 z3 z4 z5 z6 z7;rcases S2 _ with⟨z,_⟩;exact z)):P:=h a1 a2 a3 a4 a5 a6 a7
theorem PB {A1 A2 A3 A4 A5 A6 A7 A8 P:Prop}(a1:A1) (a2:A2) (a3:A3) (a4:A4) (a5:A5) (a6:A6) (a7:A7) (a8:A8) (h:A1->A2->A3->A4->A5->A6->A7->A8->P:=by intro z1 z2 z3 z4 z5 z6 z7 z8;(try simp -implicitDefEqProofs only[go_sem,z1,z2,z3,z4,z5,z6,z7,z8]);(repeat' first|(with_reducible first|exact tI|refine aI ?_ ?_|intro _)|((with_reducible refine Gs ?_ ?_<;>intro _)<;>try simp -implicitDefEqProofs only[go_sem,z1,z2,z3,z4,z5,z6,z7,z8])|simp (disch:=omega) only[IE]|refine' VV|done);all_goals (clear z1 z2 z3 z4 z5 z6 z7 z8;rcases S2 _ with⟨z,_⟩;exact z)):P:=h a1 a2 a3 a4 a5 a6 a7 a8
theorem H9 {P:Prop}(h:P:=by(try simp -implicitDefEqProofs only[go_sem]);(repeat' first|(with_reducible first|exact tI|refine aI ?_ ?_|intro _)|((with_reducible refine Gs ?_ ?_<;>intro _)<;>try simp -implicitDefEqProofs only[go_sem])|((fail_if_success (with_reducible refine isCall ?_));simp (disch:=omega) only[IE])|refine' VV|done);all_goals (rcases S2 _ with⟨z,_⟩;exact z)):P:=h
theorem VX {A1 P:Prop}(a1:A1) (h:A1->P:=by intro z1;(try simp -implicitDefEqProofs only[go_sem,z1]);(repeat' first|(with_reducible first|exact tI|refine aI ?_ ?_|intro _)|((with_reducible refine Gs ?_ ?_<;>intro _)<;>try simp -implicitDefEqProofs only[go_sem,z1])|((fail_if_success (with_reducible refine isCall ?_));simp (disch:=omega) only[IE])|refine' VV|done);all_goals (clear z1;rcases S2 _ with⟨z,_⟩;exact z)):P:=h a1
theorem HR {A1 A2 P:Prop}(a1:A1) (a2:A2) (h:A1->A2->P:=by intro z1 z2;(try simp -implicitDefEqProofs only[go_sem,z1,z2]);(repeat' first|(with_reducible first|exact tI|refine aI ?_ ?_|intro _)|((with_reducible refine Gs ?_ ?_<;>intro _)<;>try simp -implicitDefEqProofs only[go_sem,z1,z2])|((fail_if_success (with_reducible refine isCall ?_));simp (disch:=omega) only[IE])|refine' VV|done);all_goals (clear z1 z2;rcases S2 _ with⟨z,_⟩;exact z)):P:=h a1 a2
theorem Gb {A1 A2 A3 P:Prop}(a1:A1) (a2:A2) (a3:A3) (h:A1->A2->A3->P:=by intro z1 z2 z3;(try simp -implicitDefEqProofs only[go_sem,z1,z2,z3]);(repeat' first|(with_reducible first|exact tI|refine aI ?_ ?_|intro _)|((with_reducible refine Gs ?_ ?_<;>intro _)<;>try simp -implicitDefEqProofs only[go_sem,z1,z2,z3])|((fail_if_success (with_reducible refine isCall ?_));simp (disch:=omega) only[IE])|refine' VV|done);all_goals (clear z1 z2 z3;rcases S2 _ with⟨z,_⟩;exact z)):P:=h a1 a2 a3
theorem MR {A1 A2 A3 A4 P:Prop}(a1:A1) (a2:A2) (a3:A3) (a4:A4) (h:A1->A2->A3->A4->P:=by intro z1 z2 z3 z4;(try simp -implicitDefEqProofs only[go_sem,z1,z2,z3,z4]);(repeat' first|(with_reducible first|exact tI|refine aI ?_ ?_|intro _)|((with_reducible refine Gs ?_ ?_<;>intro _)<;>try simp -implicitDefEqProofs only[go_sem,z1,z2,z3,z4])|((fail_if_success (with_reducible refine isCall ?_));simp (disch:=omega) only[IE])|refine' VV|done);all_goals (clear z1 z2 z3 z4;rcases S2 _ with⟨z,_⟩;exact z)):P:=h a1 a2 a3 a4
theorem lz {A1 A2 A3 A4 A5 P:Prop}(a1:A1) (a2:A2) (a3:A3) (a4:A4) (a5:A5) (h:A1->A2->A3->A4->A5->P:=by intro z1 z2 z3 z4 z5;(try simp -implicitDefEqProofs only[go_sem,z1,z2,z3,z4,z5]);(repeat' first|(with_reducible first|exact tI|refine aI ?_ ?_|intro _)|((with_reducible refine Gs ?_ ?_<;>intro _)<;>try simp -implicitDefEqProofs only[go_sem,z1,z2,z3,z4,z5])|((fail_if_success (with_reducible refine isCall ?_));simp (disch:=omega) only[IE])|refine' VV|done);all_goals (clear z1 z2 z3 z4 z5;rcases S2 _ with⟨z,_⟩;exact z)):P:=h a1 a2 a3 a4 a5
theorem UB {A1 A2 A3 A4 A5 A6 P:Prop}(a1:A1) (a2:A2) (a3:A3) (a4:A4) (a5:A5) (a6:A6) (h:A1->A2->A3->A4->A5->A6->P:=by intro z1 z2 z3 z4 z5 z6;(try simp -implicitDefEqProofs only[go_sem,z1,z2,z3,z4,z5,z6]);(repeat' first|(with_reducible first|exact tI|refine aI ?_ ?_|intro _)|((with_reducible refine Gs ?_ ?_<;>intro _)<;>try simp -implicitDefEqProofs only[go_sem,z1,z2,z3,z4,z5,z6])|((fail_if_success (with_reducible refine isCall ?_));simp (disch:=omega) only[IE])|refine' VV|done);all_goals (clear z1 z2 z3 z4 z5 z6;rcases S2 _ with⟨z,_⟩;exact z)):P:=h a1 a2 a3 a4 a5 a6
theorem sJ {A1 A2 A3 A4 A5 A6 A7 P:Prop}(a1:A1) (a2:A2) (a3:A3) (a4:A4) (a5:A5) (a6:A6) (a7:A7) (h:A1->A2->A3->A4->A5->A6->A7->P:=by intro z1 z2 z3 z4 z5 z6 z7;(try simp -implicitDefEqProofs only[go_sem,z1,z2,z3,z4,z5,z6,z7]);(repeat' first|(with_reducible first|exact tI|refine aI ?_ ?_|intro _)|((with_reducible refine Gs ?_ ?_<;>intro _)<;>try simp -implicitDefEqProofs only[go_sem,z1,z2,z3,z4,z5,z6,z7])|((fail_if_success (with_reducible refine isCall ?_));simp (disch:=omega) only[IE])|refine' VV|done);all_goals (clear z1 z2 z3 z4 z5 z6 z7;rcases S2 _ with⟨z,_⟩;exact z)):P:=h a1 a2 a3 a4 a5 a6 a7
theorem Gr {A1 A2 A3 A4 A5 A6 A7 A8 P:Prop}(a1:A1) (a2:A2) (a3:A3) (a4:A4) (a5:A5) (a6:A6) (a7:A7) (a8:A8) (h:A1->A2->A3->A4->A5->A6->A7->A8->P:=by intro z1 z2 z3 z4 z5 z6 z7 z8;(try simp -implicitDefEqProofs only[go_sem,z1,z2,z3,z4,z5,z6,z7,z8]);(repeat' first|(with_reducible first|exact tI|refine aI ?_ ?_|intro _)|((with_reducible refine Gs ?_ ?_<;>intro _)<;>try simp -implicitDefEqProofs only[go_sem,z1,z2,z3,z4,z5,z6,z7,z8])|((fail_if_success (with_reducible refine isCall ?_));simp (disch:=omega) only[IE])|refine' VV|done);all_goals (clear z1 z2 z3 z4 z5 z6 z7 z8;rcases S2 _ with⟨z,_⟩;exact z)):P:=h a1 a2 a3 a4 a5 a6 a7 a8
end Go.Pw

/- A part of the proof. -/
import Derived.Test.YtibkjeolahobbaaGreatDoorPwVC
set_option linter.all false
namespace Go.Pw
theorem T5 (a:Int) (k:Nat):a.fdiv (2^k)=a/2^k:=by
 rw[Int.fdiv_eq_ediv_of_nonneg]
 exact Int.pow_nonneg (by omega)
theorem U5 (x:Int):Ai .and .i64 x 1=x%2:=by
 have h:(BitVec.ofInt 64 x &&& BitVec.ofInt 64 1).toNat=(x%2).toNat:=by
  have h1:(BitVec.ofInt 64 (1:Int)).toNat=1:=by decide
  rw[BitVec.toNat_and,h1,Nat.and_one_is_mod,BitVec.toNat_ofInt]
  omega
 show IntKind.i64.wrap (((BitVec.ofInt 64 x &&& BitVec.ofInt 64 1).toNat:Nat):Int)=_
 rw[h,AZ]<;>omega
theorem Tm {x y:Int}(hx:x=0\/x=1) (hy:y=0\/y=1):Ai .xor .i64 x y=if x=y then 0 else 1:=by
 rcases hx with rfl|rfl<;>rcases hy with rfl|rfl<;>decide
theorem da (n:Int) (h:0<=n/\n<=18446744073709551615):IntKind.u64.wrap n=n:=by rw[IntKind.wrap_u64];omega
theorem RM {k:Nat}(h:k<=62):(2:Int)^k<=4611686018427387904:=by
 have:(2:Nat)^k<=2^62:=Nat.pow_le_pow_right (by omega) h
 have h2:((2^k:Nat):Int)=(2:Int)^k:=by simp
 have h3:(2:Nat)^62=4611686018427387904:=by decide
 omega
theorem RL (k:Nat):(1:Int)<=(2:Int)^k:=by
 have:0<(2:Int)^k:=Int.pow_pos (by omega)
 omega
theorem oh (b:Int) (h:0<=b/\b<=62):IntKind.i64.wrap (1*2^min b.toNat IntKind.i64.bits)=2^b.toNat:=by
 have hm:min b.toNat IntKind.i64.bits=b.toNat:=by
  have:IntKind.i64.bits=64:=rfl
  rw[this];omega
 rw[hm,Int.one_mul,AZ]
 have:=RM (k:=b.toNat) (by omega)
 have:=RL b.toNat
 omega
theorem qd (a b:Int) (h:0<=b/\b<=64):a.fdiv (2^min b.toNat IntKind.i64.bits)=a/2^b.toNat:=by
 have hm:min b.toNat IntKind.i64.bits=b.toNat:=by
  have:IntKind.i64.bits=64:=rfl
  rw[this];omega
 rw[hm,T5]
theorem qe (b:Int) (h:0<=b/\b<=62):IntKind.i64.wrap (1*2^min b.toNat 64)=2^b.toNat:=oh b h
theorem og (b:Int) (h:0<=b/\b<=62):IntKind.i64.wrap (2^min b.toNat 64)=2^b.toNat:=by
 have:=oh b h;rwa [Int.one_mul] at this
theorem qc (a b:Int) (h:0<=b/\b<=64):a.fdiv (2^min b.toNat 64)=a/2^b.toNat:=qd a b h
theorem Oi {b:Int}(h:1<=b/\b<=2):(b.toNat=1/\(2:Int)^b.toNat=2/\(2:Nat)^b.toNat=2)\/(b.toNat=2/\(2:Int)^b.toNat=4/\(2:Nat)^b.toNat=4):=by
 have:b=1\/b=2:=by omega
 rcases this with rfl|rfl
 ·exact .inl ⟨rfl,rfl,rfl⟩
 ·exact .inr ⟨rfl,rfl,rfl⟩
theorem Ad:(∀(n:Int),-9223372036854775808<=n/\n<=9223372036854775807->IntKind.i64.wrap n=n)/\(∀(n:Int),0<=n/\n<=18446744073709551615->IntKind.u64.wrap n=n)/\(∀(b:Int),0<=b/\b<=62->IntKind.i64.wrap (1*2^min b.toNat IntKind.i64.bits)=2^b.toNat)/\(∀(b:Int),0<=b/\b<=62->IntKind.i64.wrap (1*2^min b.toNat 64)=2^b.toNat)/\(∀(b:Int),0<=b/\b<=62->IntKind.i64.wrap (2^min b.toNat 64)=2^b.toNat)/\(∀(a b:Int),0<=b/\b<=64->a.fdiv (2^min b.toNat IntKind.i64.bits)=a/2^b.toNat)/\(∀(a b:Int),0<=b/\b<=64->a.fdiv (2^min b.toNat 64)=a/2^b.toNat)/\∀(x:Int),Ai .and .i64 x 1=x%2:=⟨AZ,da,oh,qe,og,qd,qc,U5⟩
end Go.Pw

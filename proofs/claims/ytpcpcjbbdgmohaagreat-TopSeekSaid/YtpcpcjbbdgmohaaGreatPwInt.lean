/- A part of the proof. -/
import Derived.Test.YtpcpcjbbdgmohaaGreatPwVC
set_option linter.all false
namespace Go.Pw
theorem je (a:Int) (k:Nat):a.fdiv (2^k)=a/2^k:=by
 rw[Int.fdiv_eq_ediv_of_nonneg]
 exact Int.pow_nonneg (by omega)
theorem iq (x:Int):CK .and .i64 x 1=x%2:=by
 have h:(BitVec.ofInt 64 x &&& BitVec.ofInt 64 1).toNat=(x%2).toNat:=by
  have h1:(BitVec.ofInt 64 (1:Int)).toNat=1:=by decide
  rw[BitVec.toNat_and,h1,Nat.and_one_is_mod,BitVec.toNat_ofInt]
  omega
 show IntKind.i64.wrap (((BitVec.ofInt 64 x &&& BitVec.ofInt 64 1).toNat:Nat):Int)=_
 rw[h,Ad]<;>omega
theorem bl (n:Int) (h:0<=n/\n<=18446744073709551615):IntKind.u64.wrap n=n:=by rw[IntKind.wrap_u64];omega
theorem dJ {k:Nat}(h:k<=62):(2:Int)^k<=4611686018427387904:=by
 have:(2:Nat)^k<=2^62:=Nat.pow_le_pow_right (by omega) h
 have h2:((2^k:Nat):Int)=(2:Int)^k:=by simp
 have h3:(2:Nat)^62=4611686018427387904:=by decide
 omega
theorem dI (k:Nat):(1:Int)<=(2:Int)^k:=by
 have:0<(2:Int)^k:=Int.pow_pos (by omega)
 omega
theorem jg (b:Int) (h:0<=b/\b<=62):IntKind.i64.wrap (1*2^min b.toNat IntKind.i64.bits)=2^b.toNat:=by
 have hm:min b.toNat IntKind.i64.bits=b.toNat:=by
  have:IntKind.i64.bits=64:=rfl
  rw[this];omega
 rw[hm,Int.one_mul,Ad]
 have:=dJ (k:=b.toNat) (by omega)
 have:=dI b.toNat
 omega
theorem lO (a b:Int) (h:0<=b/\b<=64):a.fdiv (2^min b.toNat IntKind.i64.bits)=a/2^b.toNat:=by
 have hm:min b.toNat IntKind.i64.bits=b.toNat:=by
  have:IntKind.i64.bits=64:=rfl
  rw[this];omega
 rw[hm,je]
theorem lP (b:Int) (h:0<=b/\b<=62):IntKind.i64.wrap (1*2^min b.toNat 64)=2^b.toNat:=jg b h
theorem jf (b:Int) (h:0<=b/\b<=62):IntKind.i64.wrap (2^min b.toNat 64)=2^b.toNat:=by
 have:=jg b h;rwa [Int.one_mul] at this
theorem lN (a b:Int) (h:0<=b/\b<=64):a.fdiv (2^min b.toNat 64)=a/2^b.toNat:=lO a b h
theorem Al:(∀(n:Int),-9223372036854775808<=n/\n<=9223372036854775807->IntKind.i64.wrap n=n)/\(∀(n:Int),0<=n/\n<=18446744073709551615->IntKind.u64.wrap n=n)/\(∀(b:Int),0<=b/\b<=62->IntKind.i64.wrap (1*2^min b.toNat IntKind.i64.bits)=2^b.toNat)/\(∀(b:Int),0<=b/\b<=62->IntKind.i64.wrap (1*2^min b.toNat 64)=2^b.toNat)/\(∀(b:Int),0<=b/\b<=62->IntKind.i64.wrap (2^min b.toNat 64)=2^b.toNat)/\(∀(a b:Int),0<=b/\b<=64->a.fdiv (2^min b.toNat IntKind.i64.bits)=a/2^b.toNat)/\(∀(a b:Int),0<=b/\b<=64->a.fdiv (2^min b.toNat 64)=a/2^b.toNat)/\∀(x:Int),CK .and .i64 x 1=x%2:=⟨Ad,bl,jg,lP,jf,lO,lN,iq⟩
end Go.Pw

/- TopSeek, as given: for every input the law returns true, and each argument reads afterwards as it read before. No condition. -/
import Derived.Test.YtpcpcjbbdgmohaaGreatRows
import Derived.Test.YtpcpcjbbdgmohaaGreatPgQsO
import Derived.Test.YtpcpcjbbdgmohaaGreatQsTy
set_option linter.all false
namespace Go.Proofs.YtpcpcjbbdgmohaaGreat.seek
open Go.ChangeShapes Go.WideShapes Go.ChangeAt Go.RowKit Go.Pw
theorem own:ownKnob Tryz.prog.godebug=none:=by kernel_rfl
theorem laidOut:laidOutB Tryz.prog=true:=by kernel_rfl
theorem types:Aw (Qb Tryz.prog 20) Tryz.f3.params.toList=some [kw,jv,jh]:=by kernel_rfl
theorem read:(Tryz.f3.params.toList.all fun t=>Tryz.prog.readableRec t && decide (t<Tryz.prog.types.size))=true:=by kernel_rfl
theorem size:Tryz.f3.params.size=3:=by kernel_rfl
theorem ret (xs:List D) (h:QV [kw,jv,jh] xs):Ca E0 3 xs (.bool true):=by
 match xs,h with
 |[x0,x1,x2],h =>
  obtain⟨h0,h1,h2,_⟩:=h
  obtain⟨c,rfl⟩:=ZK h0
  obtain⟨b,rfl⟩:=ZJ h1
  obtain⟨no,ord,nr,runs,nk,ks,K,rfl⟩:=ZH h2
  exact Pv c b no ord nr runs nk ks K
 |[],h=>exact h.elim
 |[_],h=>exact h.2.elim
 |[_,_],h=>exact h.2.2.elim
 |_::_::_::_::_,h=>exact h.2.2.2.elim
set_option maxRecDepth 100000 in
theorem lifted (os:Os) (started:os.Started) (H:Type) (enc:TypeId×Value->H) :
  ReturnsInHanded {} Tryz.checked os 3 .any (Rows.topSeekSpec.pre6 enc Tryz.prog Tryz.f3 Rows.topSeekRow.domain false) (Rows.topSeekSpec.post enc Tryz.prog Tryz.f3 false true false false):=by
 refine returnsInHanded_of_change (C:=Tryz.checked) own started (by kernel_rfl) Tryz.func3
  (ChangeSpec.witness6 (enc:=enc) (C:=Tryz.checked) false ⟨#[],#[.agg #[.int .i64 0,.int .i64 0,.int .i64 0,.int .i64 0,.int .i64 0,.int .i64 0],.agg #[.int .i64 0,.int .i64 0,.slice none 0 0,.int .i64 0,.int .i64 0,.int .i64 0,.int .i64 0,.int .i64 0,.int .i64 0,.int .i64 0,.int .i64 0,.slice none 0 0,.slice none 0 0],.agg #[.slice none 0 0,.slice none 0 0,.slice none 0 0,.int .i64 0]],[]⟩ 8 (by kernel_rfl) (by kernel_rfl) (by kernel_rfl) (by kernel_rfl)) ?_
 intro W base args ds gs before hval hW hcnd _
 refine aK (E:=E0) (s:=Rows.topSeekSpec) (rt:=4) rfl (fun _=>rfl) laidOut (fun t ht=>?_) types (by kernel_rfl) (by kernel_rfl) rfl (fun ds hd=>?_) ret hval hW
 ·have h1:=List.all_eq_true.1 read t ht
  rw[Bool.and_eq_true,decide_eq_true_eq] at h1
  exact h1
 ·rw[size] at hd
  match ds,hd with
  |[a0,a1,a2],_=>rfl
theorem proved:Rows.TopSeekSaid :=
 OpenClaim.holds_of_wide 3 Tryz.f3 rfl rfl rfl rfl rfl rfl rfl ⟨rfl,rfl,rfl,rfl,rfl⟩ rfl rfl rfl rfl rfl (by kernel_rfl) Tryz.func3 (by kernel_rfl)
  (of_decide_eq_true (by kernel_rfl)) (by unfold Func.isWrapper;first|(rw[if_pos (by decide +kernel)];kernel_rfl)|(rw[if_neg (by decide +kernel)];exact⟨rfl,rfl⟩))
  (fun os started H enc _=>lifted os started H enc)
#print axioms proved
end Go.Proofs.YtpcpcjbbdgmohaaGreat.seek

/- TopShingled, as given: for every input the law returns true, and each argument reads afterwards as it read before. No condition. -/
import Derived.Test.YtpcpcjbbdgmohaaRows
import Derived.Test.YtpcpcjbbdgmohaaPgTsX
import Derived.Test.YtpcpcjbbdgmohaaTsTy
set_option linter.all false
namespace Go.Proofs.Ytpcpcjbbdgmohaa.shingled
open Go.ChangeShapes Go.WideShapes Go.ChangeAt Go.RowKit Go.Pw
theorem own:ownKnob Try.prog.godebug=none:=by kernel_rfl
theorem laidOut:laidOutB Try.prog=true:=by kernel_rfl
theorem types:A6 (OC Try.prog 20) Try.f4.params.toList=some [VJ,VL,Z6]:=by kernel_rfl
theorem read:(Try.f4.params.toList.all fun t=>Try.prog.readableRec t && decide (t<Try.prog.types.size))=true:=by kernel_rfl
theorem size:Try.f4.params.size=3:=by kernel_rfl
theorem ret (xs:List D) (h:N4 [VJ,VL,Z6] xs):E9 E0 4 xs (.bool true):=by
 match xs,h with
 |[x0,x1,x2],h =>
  obtain⟨h0,h1,h2,_⟩:=h
  obtain⟨c,rfl⟩:=Rt h0
  obtain⟨b,rfl⟩:=Ru h1
  obtain⟨nd,ds,rfl⟩:=Tr h2
  exact Ka c b nd ds
 |[],h=>exact h.elim
 |[_],h=>exact h.2.elim
 |[_,_],h=>exact h.2.2.elim
 |_::_::_::_::_,h=>exact h.2.2.2.elim
set_option maxRecDepth 100000 in
theorem lifted (os:Os) (started:os.Started) (H:Type) (enc:TypeId×Value->H) :
  ReturnsInHanded {} Try.checked os 4 .any (Rows.topShingledSpec.pre6 enc Try.prog Try.f4 Rows.topShingledRow.domain false) (Rows.topShingledSpec.post enc Try.prog Try.f4 false true false false):=by
 refine returnsInHanded_of_change (C:=Try.checked) own started (by kernel_rfl) Try.func4
  (ChangeSpec.witness6 (enc:=enc) (C:=Try.checked) false ⟨#[],#[.agg #[.int .i64 0,.slice none 0 0],.agg #[.int .i64 0,.int .i64 0,.int .i64 0,.int .i64 0,.int .i64 0],.slice none 0 0],[]⟩ 8 (by kernel_rfl) (by kernel_rfl) (by kernel_rfl) (by kernel_rfl)) ?_
 intro W base args ds gs before hval hW hcnd _
 refine Wv (E:=E0) (s:=Rows.topShingledSpec) (rt:=4) rfl (fun _=>rfl) laidOut (fun t ht=>?_) types (by kernel_rfl) (by kernel_rfl) rfl (fun ds hd=>?_) ret hval hW
 ·have h1:=List.all_eq_true.1 read t ht
  rw[Bool.and_eq_true,decide_eq_true_eq] at h1
  exact h1
 ·rw[size] at hd
  match ds,hd with
  |[a0,a1,a2],_=>rfl
theorem proved:Rows.TopShingledSaid :=
 OpenClaim.holds_of_wide 4 Try.f4 rfl rfl rfl rfl rfl rfl rfl ⟨rfl,rfl,rfl,rfl,rfl⟩ rfl rfl rfl rfl rfl (by kernel_rfl) Try.func4 (by kernel_rfl)
  (of_decide_eq_true (by kernel_rfl)) (by unfold Func.isWrapper;first|(rw[if_pos (by decide +kernel)];kernel_rfl)|(rw[if_neg (by decide +kernel)];exact⟨rfl,rfl⟩))
  (fun os started H enc _=>lifted os started H enc)
#print axioms proved
end Go.Proofs.Ytpcpcjbbdgmohaa.shingled

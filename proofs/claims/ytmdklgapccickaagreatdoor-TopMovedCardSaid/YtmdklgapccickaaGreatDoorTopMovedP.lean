/- TopMoved, as given: for every input the law returns true, and each argument reads afterwards as it read before. The package variables of correct hold what the program's text lays; the card ties them. No other condition. -/
import Derived.Test.YtmdklgapccickaaGreatDoorMvWl
import Derived.Test.YtmdklgapccickaaGreatDoorPgMvV
set_option linter.all false
namespace Go.Proofs.YtmdklgapccickaaGreatDoor.moved
open Go.ChangeShapes Go.WideShapes Go.ChangeAt Go.RowKit Go.Pw
theorem types:Ax (U3 Tryz.prog 20) Tryz.f4.params.toList=some [rL,zP,yt]:=by kernel_rfl
theorem read:(Tryz.f4.params.toList.all fun t=>Tryz.prog.readableRec t && decide (t<Tryz.prog.types.size))=true:=by kernel_rfl
theorem size:Tryz.f4.params.size=3:=by kernel_rfl
theorem ret(xs:List D)(h:Ur [rL,zP,yt] xs):BU E0 4 xs (.bool true):=by
 match xs,h with
 |[x0,x1,x2],h =>
  obtain⟨h0,h1,h2,_⟩:=h;obtain⟨c,rfl⟩:=aU h0;obtain⟨f,rfl⟩:=eC h1;obtain⟨n1,rows,n2,S,fr,n3,A,rfl⟩:=eB h2;exact Zs c f n1 n2 n3 rows S fr A
 |[],h=>exact h.elim
 |[_],h=>exact h.2.elim
 |[_,_],h=>exact h.2.2.elim
 |_::_::_::_::_,h=>exact h.2.2.2.elim
set_option maxRecDepth 100000 in
theorem lifted(os:Os)(started:os.Started)(H:Type)(enc:TypeId×Value->H) :
  ReturnsInHanded {} Tryz.checked os 4 .any (fun w args=>(Rows.topMovedSpec.pre enc Tryz.prog Tryz.f4 [] false w args/\laidMet Tryz.prog laidL w)/\sizedMet enc Tryz.prog Tryz.f4 (OpenSpec.ofChange Rows.topMovedSpec) false w args)
   (Rows.topMovedSpec.post enc Tryz.prog Tryz.f4 false true false false):=by
 refine returnsInHanded_of_change_and (C:=Tryz.checked) (X:=fun w _=>laidMet Tryz.prog laidL w) (fun _ _ _ hh h=>h.of_heap hh) own started (by kernel_rfl) Tryz.func4
  (ChangeSpec.witness_at (enc:=enc) (C:=Tryz.checked) (os:=os) (X:=fun w _=>laidMet Tryz.prog laidL w) false (laidWorld os) #[.agg #[.int .i64 0,.int .i64 0,.int .i64 0,.int .i64 0,.slice .none 0 0,.slice .none 0 0,.int .i64 0,.int .i64 0,.int .i64 0,.slice .none 0 0,.int .i64 0,.int .i64 0],.agg #[.int .i64 0,.int .i64 0,.slice .none 0 0,.int .i64 0,.int .i64 0,.int .i64 0,.int .i64 0,.int .i64 0,.int .i64 0,.int .i64 0,.slice .none 0 0,.slice .none 0 0],.agg #[.slice .none 0 0,.slice .none 0 0,.int .i64 0,.slice .none 0 0]] 8 rfl (by kernel_rfl) (by kernel_rfl) (by kernel_rfl) (by kernel_rfl) (by kernel_rfl) (laidWorld_met os _)) ?_
 intro W base args ds gs before e l i _ j _;refine fW (E:=E0) (s:=Rows.topMovedSpec) (rt:=4) rfl laidOut (fun t ht=>?_) types (by kernel_rfl) (by kernel_rfl) rfl (fun ds hd=>?_) ret (laid_ok j) e l
 ·have h1:=List.all_eq_true.1 read t ht;rw[Bool.and_eq_true,decide_eq_true_eq]at h1;exact h1
 ·rw[size]at hd
  match ds,hd with
  |[a0,a1,a2],_=>rfl
theorem row:Rows.TopMovedSaid :=
 OpenClaim.holds_of_wide 4 Tryz.f4 rfl rfl rfl rfl rfl rfl rfl ⟨rfl,rfl,rfl,rfl,rfl⟩ rfl rfl rfl rfl rfl (by kernel_rfl) Tryz.func4 (by kernel_rfl)
  (of_decide_eq_true (by kernel_rfl)) (by unfold Func.isWrapper;first|(rw[if_pos (by decide +kernel)];kernel_rfl)|(rw[if_neg (by decide +kernel)];exact⟨rfl,rfl⟩))
  (fun os started H enc _=>lifted os started H enc)
theorem proved:Rows.TopMovedCardSaid :=
 Claim7.holds_tied_plain_at .later [] [.data,.data] true (true, "a0422e53d5a47be366057f1b59722fdd815a2c7efe9b85c3c60b763a7974f292") false
  row (fun _ h=>by cases h) (by kernel_rfl) (fun _ h=>by cases h) topMoved_row_tie rfl ⟨rfl,rfl⟩ (by kernel_rfl) rfl
  (fun f fn m l=>by
   obtain rfl:f=4:=Option.some.inj ((show Tryz.prog.funcNamed "platter/plattertop.TopMoved"=some 4 by kernel_rfl).symm.trans m) |>.symm
   obtain rfl:fn=Tryz.f4:=(Option.some.inj (Tryz.func4.symm.trans l)).symm;refine⟨by kernel_rfl,fun j t ht=>?_⟩;have e:(Tryz.f4.params.toList.all fun t=>!Tryz.prog.wantsStandIn t)=true:=by kernel_rfl
   have:=List.all_eq_true.1 e t (List.mem_of_getElem? (i:=j) (by simpa using ht));have h2:Tryz.prog.wantsStandIn t=false:=by simpa using this
   exact h2)
  (by kernel_rfl)
#print axioms proved
end Go.Proofs.YtmdklgapccickaaGreatDoor.moved

/- TopRuled, as given: for every input the law returns true, and each argument reads afterwards as it read before. The package variables of correct hold what the program's text lays; the card ties them. No other condition. -/
import Derived.Test.YtmdklgapccickaaGreatDoorMvWl
import Derived.Test.YtmdklgapccickaaGreatDoorPgMvM
set_option linter.all false
namespace Go.Proofs.YtmdklgapccickaaGreatDoor.ruled
open Go.ChangeShapes Go.WideShapes Go.ChangeAt Go.RowKit Go.Pw
theorem types:BV (Ra Tryz.prog 20) Tryz.f3.params.toList=some [gk,.list (.int .i64)]:=by kernel_rfl
theorem read:(Tryz.f3.params.toList.all fun t=>Tryz.prog.readableRec t && decide (t<Tryz.prog.types.size))=true:=by kernel_rfl
theorem size:Tryz.f3.params.size=2:=by kernel_rfl
theorem ret (xs:List D) (h:RR [gk,.list (.int .i64)] xs):Cc E0 3 xs (.bool true):=by
 match xs,h with
 |[x0,x1],h =>
  obtain⟨h0,h1,_⟩:=h
  obtain⟨c,rfl⟩:=Ve h0
  obtain⟨n1,d,rfl⟩:=Vc h1
  exact VR c n1 d
 |[],h=>exact h.elim
 |[_],h=>exact h.2.elim
 |_::_::_::_,h=>exact h.2.2.elim
set_option maxRecDepth 100000 in
theorem lifted (os:Os) (started:os.Started) (H:Type) (enc:TypeId×Value->H) :
  ReturnsInHanded {} Tryz.checked os 3 .any (fun w args=>(Rows.topRuledSpec.pre enc Tryz.prog Tryz.f3 [] false w args/\laidMet Tryz.prog laidL w)/\sizedMet enc Tryz.prog Tryz.f3 (OpenSpec.ofChange Rows.topRuledSpec) false w args)
   (Rows.topRuledSpec.post enc Tryz.prog Tryz.f3 false true false false):=by
 refine returnsInHanded_of_change_and (C:=Tryz.checked) (X:=fun w _=>laidMet Tryz.prog laidL w) (fun _ _ _ hh h=>h.of_heap hh) own started (by kernel_rfl) Tryz.func3
  (ChangeSpec.witness_at (enc:=enc) (C:=Tryz.checked) (os:=os) (X:=fun w _=>laidMet Tryz.prog laidL w) false (laidWorld os) #[.agg #[.int .i64 0,.int .i64 0,.int .i64 0,.int .i64 0,.slice .none 0 0,.slice .none 0 0,.int .i64 0,.int .i64 0,.int .i64 0,.slice .none 0 0,.int .i64 0,.int .i64 0],.slice .none 0 0] 8 rfl (by kernel_rfl) (by kernel_rfl) (by kernel_rfl) (by kernel_rfl) (by kernel_rfl) (laidWorld_met os _)) ?_
 intro W base args ds gs before hval hW hcnd _ hL _
 refine YQ (E:=E0) (s:=Rows.topRuledSpec) (rt:=4) rfl laidOut (fun t ht=>?_) types (by kernel_rfl) (by kernel_rfl) rfl (fun ds hd=>?_) ret (laid_ok hL) hval hW
 ·have h1:=List.all_eq_true.1 read t ht
  rw[Bool.and_eq_true,decide_eq_true_eq] at h1
  exact h1
 ·rw[size] at hd
  match ds,hd with
  |[a0,a1],_=>rfl
theorem row:Rows.TopRuledSaid :=
 OpenClaim.holds_of_wide 3 Tryz.f3 rfl rfl rfl rfl rfl rfl rfl ⟨rfl,rfl,rfl,rfl,rfl⟩ rfl rfl rfl rfl rfl (by kernel_rfl) Tryz.func3 (by kernel_rfl)
  (of_decide_eq_true (by kernel_rfl)) (by unfold Func.isWrapper;first|(rw[if_pos (by decide +kernel)];kernel_rfl)|(rw[if_neg (by decide +kernel)];exact⟨rfl,rfl⟩))
  (fun os started H enc _=>lifted os started H enc)
theorem proved:Rows.TopRuledCardSaid :=
 Claim7.holds_tied_plain_at .later [] [.data,.data] true (true, "a0422e53d5a47be366057f1b59722fdd815a2c7efe9b85c3c60b763a7974f292") false
  row (fun _ h=>by cases h) (by kernel_rfl) (fun _ h=>by cases h) topRuled_row_tie rfl ⟨rfl,rfl⟩ (by kernel_rfl) rfl
  (fun f fn hf hfn=>by
   obtain rfl:f=3:=Option.some.inj ((show Tryz.prog.funcNamed "platter/plattertop.TopRuled"=some 3 by kernel_rfl).symm.trans hf) |>.symm
   obtain rfl:fn=Tryz.f3:=(Option.some.inj (Tryz.func3.symm.trans hfn)).symm
   refine⟨by kernel_rfl,fun j t ht=>?_⟩
   have hall:(Tryz.f3.params.toList.all fun t=>!Tryz.prog.wantsStandIn t)=true:=by kernel_rfl
   have:=List.all_eq_true.1 hall t (List.mem_of_getElem? (i:=j) (by simpa using ht))
   have h2:Tryz.prog.wantsStandIn t=false:=by simpa using this
   exact h2)
  (by kernel_rfl)
#print axioms proved
end Go.Proofs.YtmdklgapccickaaGreatDoor.ruled

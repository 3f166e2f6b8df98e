/- TopWritten, as given: for every input the law returns true, and each argument reads afterwards as it read before. The package variables of correct hold what the program's text lays; the card ties them. No other condition. -/
import Derived.Test.YtpcpcjbbdgmohaaDoorTwWl
import Derived.Test.YtpcpcjbbdgmohaaDoorTwTy
import Derived.Test.YtpcpcjbbdgmohaaDoorPgTwE3
set_option linter.all false
namespace Go.Proofs.YtpcpcjbbdgmohaaDoor.written
open Go.ChangeShapes Go.WideShapes Go.ChangeAt Go.RowKit Go.Pw
theorem types:A3 (Ng Tryd.prog 20) Tryd.f4.params.toList=some [ZP,de,ct]:=by kernel_rfl
theorem read:(Tryd.f4.params.toList.all fun t=>Tryd.prog.readableRec t && decide (t<Tryd.prog.types.size))=true:=by kernel_rfl
theorem size:Tryd.f4.params.size=3:=by kernel_rfl
theorem ret (xs:List D) (h:NZ [ZP,de,ct] xs):DE E0 4 xs (.bool true):=by
 match xs,h with
 |[x0,x1,x2],h =>
  obtain⟨h0,h1,h2,_⟩:=h
  obtain⟨c,rfl⟩:=S7 h0
  obtain⟨L,P,Q,rfl⟩:=S6 h1
  obtain⟨n1,d,n2,fl,rfl⟩:=S5 h2
  exact Oq c L P Q n1 n2 d fl
 |[],h=>exact h.elim
 |[_],h=>exact h.2.elim
 |[_,_],h=>exact h.2.2.elim
 |_::_::_::_::_,h=>exact h.2.2.2.elim
set_option maxRecDepth 100000 in
theorem lifted (os:Os) (started:os.Started) (H:Type) (enc:TypeId×Value->H) :
  ReturnsInHanded {} Tryd.checked os 4 .any (fun w args=>(Rows.topWrittenSpec.pre enc Tryd.prog Tryd.f4 [] false w args/\laidMet Tryd.prog laidL w)/\sizedMet enc Tryd.prog Tryd.f4 (OpenSpec.ofChange Rows.topWrittenSpec) false w args)
   (Rows.topWrittenSpec.post enc Tryd.prog Tryd.f4 false true false false):=by
 refine returnsInHanded_of_change_and (C:=Tryd.checked) (X:=fun w _=>laidMet Tryd.prog laidL w) (fun _ _ _ hh h=>h.of_heap hh) own started (by kernel_rfl) Tryd.func4
  (ChangeSpec.witness_at (enc:=enc) (C:=Tryd.checked) (os:=os) (X:=fun w _=>laidMet Tryd.prog laidL w) false (laidWorld os) #[.agg #[.int .i64 0,.int .i64 0,.int .i64 0,.int .i64 0,.slice .none 0 0,.slice .none 0 0],.agg #[.int .i64 0,.int .i64 0,.int .i64 0],.agg #[.slice .none 0 0,.slice .none 0 0]] 8 rfl (by kernel_rfl) (by kernel_rfl) (by kernel_rfl) (by kernel_rfl) (by kernel_rfl) (laidWorld_met os _)) ?_
 intro W base args ds gs before hval hW hcnd _ hL _
 refine Tm (E:=E0) (s:=Rows.topWrittenSpec) (rt:=4) rfl laidOut (fun t ht=>?_) types (by kernel_rfl) (by kernel_rfl) rfl (fun ds hd=>?_) ret (laid_ok hL) hval hW
 ·have h1:=List.all_eq_true.1 read t ht
  rw[Bool.and_eq_true,decide_eq_true_eq] at h1
  exact h1
 ·rw[size] at hd
  match ds,hd with
  |[a0,a1,a2],_=>rfl
theorem row:Rows.TopWrittenSaid :=
 OpenClaim.holds_of_wide 4 Tryd.f4 rfl rfl rfl rfl rfl rfl rfl ⟨rfl,rfl,rfl,rfl,rfl⟩ rfl rfl rfl rfl rfl (by kernel_rfl) Tryd.func4 (by kernel_rfl)
  (of_decide_eq_true (by kernel_rfl)) (by unfold Func.isWrapper;first|(rw[if_pos (by decide +kernel)];kernel_rfl)|(rw[if_neg (by decide +kernel)];exact⟨rfl,rfl⟩))
  (fun os started H enc _=>lifted os started H enc)
theorem proved:Rows.TopWrittenCardSaid :=
 Claim7.holds_tied_plain_at .later [] [.data,.data] true (true, "10c1a5720065c6ad3954c2399b86dcc7bef9ac25b77ebeff95507e5942f04e23") false
  row (fun _ h=>by cases h) (by kernel_rfl) (fun _ h=>by cases h) topWritten_row_tie rfl ⟨rfl,rfl⟩ (by kernel_rfl) rfl
  (fun f fn hf hfn=>by
   obtain rfl:f=4:=Option.some.inj ((show Tryd.prog.funcNamed "platter/plattertop.TopWritten"=some 4 by kernel_rfl).symm.trans hf) |>.symm
   obtain rfl:fn=Tryd.f4:=(Option.some.inj (Tryd.func4.symm.trans hfn)).symm
   refine⟨by kernel_rfl,fun j t ht=>?_⟩
   have hall:(Tryd.f4.params.toList.all fun t=>!Tryd.prog.wantsStandIn t)=true:=by kernel_rfl
   have:=List.all_eq_true.1 hall t (List.mem_of_getElem? (i:=j) (by simpa using ht))
   have h2:Tryd.prog.wantsStandIn t=false:=by simpa using this
   exact h2)
  (by kernel_rfl)
#print axioms proved
end Go.Proofs.YtpcpcjbbdgmohaaDoor.written

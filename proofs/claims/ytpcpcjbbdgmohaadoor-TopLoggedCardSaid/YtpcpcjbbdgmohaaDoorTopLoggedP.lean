/- TopLogged, as given: for every input the law returns true, and each argument reads afterwards as it read before. The package variables of journal hold what the program's text lays; the card ties them. No other condition. -/
import Derived.Test.YtpcpcjbbdgmohaaDoorPgLgWl
import Derived.Test.YtpcpcjbbdgmohaaDoorPgLgA
import Derived.Test.YtpcpcjbbdgmohaaDoorPgLgK
set_option linter.all false
namespace Go.Proofs.YtpcpcjbbdgmohaaDoor.logged
open Go.ChangeShapes Go.WideShapes Go.ChangeAt Go.RowKit Go.Pw
theorem types:BD (Nh Tryd.prog 20) Tryd.f3.params.toList=some [T9,a_,Xs]:=by kernel_rfl
theorem read:(Tryd.f3.params.toList.all fun t=>Tryd.prog.readableRec t && decide (t<Tryd.prog.types.size))=true:=by kernel_rfl
theorem size:Tryd.f3.params.size=3:=by kernel_rfl
theorem ret (xs:List D) (h:NZ [T9,a_,Xs] xs):D6 E0 3 xs (.bool true):=by
 match xs,h with
 |[x0,x1,x2],h =>
  obtain⟨h0,h1,h2,_⟩:=h
  obtain⟨c,rfl⟩:=Q_ h0
  obtain⟨l,rfl,hs,hz⟩:=Ur h1
  obtain⟨nd,ds,torn,rfl⟩:=Sr h2
  exact PG c l hs hz nd ds torn
 |[],h=>exact h.elim
 |[_],h=>exact h.2.elim
 |[_,_],h=>exact h.2.2.elim
 |_::_::_::_::_,h=>exact h.2.2.2.elim
set_option maxRecDepth 100000 in
theorem lifted (os:Os) (started:os.Started) (H:Type) (enc:TypeId×Value->H) :
  ReturnsInHanded {} Tryd.checked os 3 .any (fun w args=>(Rows.topLoggedSpec.pre enc Tryd.prog Tryd.f3 [] false w args/\laidMet Tryd.prog laidL w)/\sizedMet enc Tryd.prog Tryd.f3 (OpenSpec.ofChange Rows.topLoggedSpec) false w args)
   (Rows.topLoggedSpec.post enc Tryd.prog Tryd.f3 false true false false):=by
 refine returnsInHanded_of_change_and (C:=Tryd.checked) (X:=fun w _=>laidMet Tryd.prog laidL w) (fun _ _ _ hh h=>h.of_heap hh) own started (by kernel_rfl) Tryd.func3
  (ChangeSpec.witness_at (enc:=enc) (C:=Tryd.checked) (os:=os) (X:=fun w _=>laidMet Tryd.prog laidL w) false (laidWorld os) #[.agg #[.int .i64 0,.slice .none 0 0],.agg #[.int .i64 0,.int .i64 0,.slice .none 0 0,.int .i64 0,.int .i64 0,.int .i64 0,.int .i64 0,.int .i64 0,.int .i64 0,.int .i64 0,.int .i64 0,.slice .none 0 0],.agg #[.slice .none 0 0,.bool false]] 8 rfl (by kernel_rfl) (by kernel_rfl) (by kernel_rfl) (by kernel_rfl) (by kernel_rfl) (laidWorld_met os _)) ?_
 intro W base args ds gs before hval hW hcnd _ hL _
 refine TZ (E:=E0) (s:=Rows.topLoggedSpec) (rt:=4) rfl laidOut (fun t ht=>?_) types (by kernel_rfl) (by kernel_rfl) rfl (fun ds hd=>?_) ret (laid_ok hL) hval hW
 ·have h1:=List.all_eq_true.1 read t ht
  rw[Bool.and_eq_true,decide_eq_true_eq] at h1
  exact h1
 ·rw[size] at hd
  match ds,hd with
  |[a0,a1,a2],_=>rfl
theorem row:Rows.TopLoggedSaid :=
 OpenClaim.holds_of_wide 3 Tryd.f3 rfl rfl rfl rfl rfl rfl rfl ⟨rfl,rfl,rfl,rfl,rfl⟩ rfl rfl rfl rfl rfl (by kernel_rfl) Tryd.func3 (by kernel_rfl)
  (of_decide_eq_true (by kernel_rfl)) (by unfold Func.isWrapper;first|(rw[if_pos (by decide +kernel)];kernel_rfl)|(rw[if_neg (by decide +kernel)];exact⟨rfl,rfl⟩))
  (fun os started H enc _=>lifted os started H enc)
theorem proved:Rows.TopLoggedCardSaid :=
 Claim7.holds_tied_plain_at .later [] [.data,.data] true (true, "10c1a5720065c6ad3954c2399b86dcc7bef9ac25b77ebeff95507e5942f04e23") false
  row (fun _ h=>by cases h) (by kernel_rfl) (fun _ h=>by cases h) topLogged_row_tie rfl ⟨rfl,rfl⟩ (by kernel_rfl) rfl
  (fun f fn hf hfn=>by
   obtain rfl:f=3:=Option.some.inj ((show Tryd.prog.funcNamed "platter/plattertop.TopLogged"=some 3 by kernel_rfl).symm.trans hf) |>.symm
   obtain rfl:fn=Tryd.f3:=(Option.some.inj (Tryd.func3.symm.trans hfn)).symm
   refine⟨by kernel_rfl,fun j t ht=>?_⟩
   have hall:(Tryd.f3.params.toList.all fun t=>!Tryd.prog.wantsStandIn t)=true:=by kernel_rfl
   have:=List.all_eq_true.1 hall t (List.mem_of_getElem? (i:=j) (by simpa using ht))
   have h2:Tryd.prog.wantsStandIn t=false:=by simpa using this
   exact h2)
  (by kernel_rfl)
#print axioms proved
end Go.Proofs.YtpcpcjbbdgmohaaDoor.logged

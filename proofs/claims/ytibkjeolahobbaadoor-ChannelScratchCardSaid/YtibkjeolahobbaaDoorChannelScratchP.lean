/- ChannelScratch, as given: for every input the law returns true, and each argument reads afterwards as it read before. The package variables of correct hold what the program's text lays; the card ties them. No other condition. -/
import Derived.Test.YtibkjeolahobbaaDoorPgCdChWl
import Derived.Test.YtibkjeolahobbaaDoorPgCdChP
set_option linter.all false
namespace Go.Proofs.YtibkjeolahobbaaDoor.scratch
open Go.ChangeShapes Go.WideShapes Go.ChangeAt Go.RowKit Go.Pw
theorem types:A7 (OA Tryd.prog 20) Tryd.f5.params.toList=some [Qs,j_]:=by kernel_rfl
theorem read:(Tryd.f5.params.toList.all fun t=>Tryd.prog.readableRec t && decide (t<Tryd.prog.types.size))=true:=by kernel_rfl
theorem size:Tryd.f5.params.size=2:=by kernel_rfl
theorem ret (xs:List D) (h:Lb [Qs,j_] xs):CK E0 5 xs (.bool true):=by
 match xs,h with
 |[x0,x1],h =>
  obtain⟨h0,h1,_⟩:=h
  obtain⟨c,rfl⟩:=KM h0
  obtain⟨n1,d,f,n3,a,rfl⟩:=WO h1
  exact Mm c n1 n3 d f a
 |[],h=>exact h.elim
 |[_],h=>exact h.2.elim
 |_::_::_::_,h=>exact h.2.2.elim
set_option maxRecDepth 100000 in
theorem lifted (os:Os) (started:os.Started) (H:Type) (enc:TypeId×Value->H) :
  ReturnsInHanded {} Tryd.checked os 5 .any (fun w args=>(Rows.channelScratchSpec.pre enc Tryd.prog Tryd.f5 [] false w args/\laidMet Tryd.prog laidL w)/\sizedMet enc Tryd.prog Tryd.f5 (OpenSpec.ofChange Rows.channelScratchSpec) false w args)
   (Rows.channelScratchSpec.post enc Tryd.prog Tryd.f5 false true false false):=by
 refine returnsInHanded_of_change_and (C:=Tryd.checked) (X:=fun w _=>laidMet Tryd.prog laidL w) (fun _ _ _ hh h=>h.of_heap hh) own started (by kernel_rfl) Tryd.func5
  (ChangeSpec.witness_at (enc:=enc) (C:=Tryd.checked) (os:=os) (X:=fun w _=>laidMet Tryd.prog laidL w) false (laidWorld os) #[.agg #[.int .i64 0,.int .i64 0,.int .i64 0,.int .i64 0,.slice .none 0 0,.slice .none 0 0,.int .i64 0,.int .i64 0,.int .i64 0,.slice .none 0 0,.int .i64 0,.int .i64 0],.agg #[.slice .none 0 0,.int .i64 0,.slice .none 0 0]] 8 rfl (by kernel_rfl) (by kernel_rfl) (by kernel_rfl) (by kernel_rfl) (by kernel_rfl) (laidWorld_met os _)) ?_
 intro W base args ds gs before hval hW hcnd _ hL _
 refine MN (E:=E0) (s:=Rows.channelScratchSpec) (rt:=4) rfl laidOut (fun t ht=>?_) types (by kernel_rfl) (by kernel_rfl) rfl (fun ds hd=>?_) ret (laid_ok hL) hval hW
 ·have h1:=List.all_eq_true.1 read t ht
  rw[Bool.and_eq_true,decide_eq_true_eq] at h1
  exact h1
 ·rw[size] at hd
  match ds,hd with
  |[a0,a1],_=>rfl
theorem row:Rows.ChannelScratchSaid :=
 OpenClaim.holds_of_wide 5 Tryd.f5 rfl rfl rfl rfl rfl rfl rfl ⟨rfl,rfl,rfl,rfl,rfl⟩ rfl rfl rfl rfl rfl (by kernel_rfl) Tryd.func5 (by kernel_rfl)
  (of_decide_eq_true (by kernel_rfl)) (by unfold Func.isWrapper;first|(rw[if_pos (by decide +kernel)];kernel_rfl)|(rw[if_neg (by decide +kernel)];exact⟨rfl,rfl⟩))
  (fun os started H enc _=>lifted os started H enc)
theorem proved:Rows.ChannelScratchCardSaid :=
 Claim7.holds_tied_plain_at .later [] [.data,.data] true (true, "f6274cab74292efdbbaf683be546ddbb949fd1ce866ddf790f4640e9591ba5d6") false
  row (fun _ h=>by cases h) (by kernel_rfl) (fun _ h=>by cases h) channelScratch_row_tie rfl ⟨rfl,rfl⟩ (by kernel_rfl) rfl
  (fun f fn hf hfn=>by
   obtain rfl:f=5:=Option.some.inj ((show Tryd.prog.funcNamed "platter/platterlaw13.ChannelScratch"=some 5 by kernel_rfl).symm.trans hf) |>.symm
   obtain rfl:fn=Tryd.f5:=(Option.some.inj (Tryd.func5.symm.trans hfn)).symm
   refine⟨by kernel_rfl,fun j t ht=>?_⟩
   have hall:(Tryd.f5.params.toList.all fun t=>!Tryd.prog.wantsStandIn t)=true:=by kernel_rfl
   have:=List.all_eq_true.1 hall t (List.mem_of_getElem? (i:=j) (by simpa using ht))
   have h2:Tryd.prog.wantsStandIn t=false:=by simpa using this
   exact h2)
  (by kernel_rfl)
#print axioms proved
end Go.Proofs.YtibkjeolahobbaaDoor.scratch

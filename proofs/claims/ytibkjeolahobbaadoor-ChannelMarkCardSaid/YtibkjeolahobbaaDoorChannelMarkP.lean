/- ChannelMark, as given: for every input the law returns true, and each argument reads afterwards as it read before. The package variables of correct hold what the program's text lays; the card ties them. No other condition. -/
import Derived.Test.YtibkjeolahobbaaDoorPgCdChWl
import Derived.Test.YtibkjeolahobbaaDoorPgCdChP
set_option linter.all false
namespace Go.Proofs.YtibkjeolahobbaaDoor.mark
open Go.ChangeShapes Go.WideShapes Go.ChangeAt Go.RowKit Go.Pw
theorem types:A7 (OA Tryd.prog 20) Tryd.f3.params.toList=some [Qs,jm]:=by kernel_rfl
theorem read:(Tryd.f3.params.toList.all fun t=>Tryd.prog.readableRec t && decide (t<Tryd.prog.types.size))=true:=by kernel_rfl
theorem size:Tryd.f3.params.size=2:=by kernel_rfl
theorem ret (xs:List D) (h:Lc [Qs,jm] xs):CK E0 3 xs (.bool true):=by
 match xs,h with
 |[x0,x1],h =>
  obtain⟨h0,h1,_⟩:=h
  obtain⟨c,rfl⟩:=KN h0
  obtain⟨n1,d,n2,a,n3,m,f,rfl⟩:=WM h1
  exact Pf c n1 n2 n3 d a m f
 |[],h=>exact h.elim
 |[_],h=>exact h.2.elim
 |_::_::_::_,h=>exact h.2.2.elim
set_option maxRecDepth 100000 in
theorem lifted (os:Os) (started:os.Started) (H:Type) (enc:TypeId×Value->H) :
  ReturnsInHanded {} Tryd.checked os 3 .any (fun w args=>(Rows.channelMarkSpec.pre enc Tryd.prog Tryd.f3 [] false w args/\laidMet Tryd.prog laidL w)/\sizedMet enc Tryd.prog Tryd.f3 (OpenSpec.ofChange Rows.channelMarkSpec) false w args)
   (Rows.channelMarkSpec.post enc Tryd.prog Tryd.f3 false true false false):=by
 refine returnsInHanded_of_change_and (C:=Tryd.checked) (X:=fun w _=>laidMet Tryd.prog laidL w) (fun _ _ _ hh h=>h.of_heap hh) own started (by kernel_rfl) Tryd.func3
  (ChangeSpec.witness_at (enc:=enc) (C:=Tryd.checked) (os:=os) (X:=fun w _=>laidMet Tryd.prog laidL w) false (laidWorld os) #[.agg #[.int .i64 0,.int .i64 0,.int .i64 0,.int .i64 0,.slice .none 0 0,.slice .none 0 0,.int .i64 0,.int .i64 0,.int .i64 0,.slice .none 0 0,.int .i64 0,.int .i64 0],.agg #[.slice .none 0 0,.slice .none 0 0,.slice .none 0 0,.int .i64 0]] 8 rfl (by kernel_rfl) (by kernel_rfl) (by kernel_rfl) (by kernel_rfl) (by kernel_rfl) (laidWorld_met os _)) ?_
 intro W base args ds gs before hval hW hcnd _ hL _
 refine MN (E:=E0) (s:=Rows.channelMarkSpec) (rt:=4) rfl laidOut (fun t ht=>?_) types (by kernel_rfl) (by kernel_rfl) rfl (fun ds hd=>?_) ret (laid_ok hL) hval hW
 ·have h1:=List.all_eq_true.1 read t ht
  rw[Bool.and_eq_true,decide_eq_true_eq] at h1
  exact h1
 ·rw[size] at hd
  match ds,hd with
  |[a0,a1],_=>rfl
theorem row:Rows.ChannelMarkSaid :=
 OpenClaim.holds_of_wide 3 Tryd.f3 rfl rfl rfl rfl rfl rfl rfl ⟨rfl,rfl,rfl,rfl,rfl⟩ rfl rfl rfl rfl rfl (by kernel_rfl) Tryd.func3 (by kernel_rfl)
  (of_decide_eq_true (by kernel_rfl)) (by unfold Func.isWrapper;first|(rw[if_pos (by decide +kernel)];kernel_rfl)|(rw[if_neg (by decide +kernel)];exact⟨rfl,rfl⟩))
  (fun os started H enc _=>lifted os started H enc)
theorem proved:Rows.ChannelMarkCardSaid :=
 Claim7.holds_tied_plain_at .later [] [.data,.data] true (true, "f6274cab74292efdbbaf683be546ddbb949fd1ce866ddf790f4640e9591ba5d6") false
  row (fun _ h=>by cases h) (by kernel_rfl) (fun _ h=>by cases h) channelMark_row_tie rfl ⟨rfl,rfl⟩ (by kernel_rfl) rfl
  (fun f fn hf hfn=>by
   obtain rfl:f=3:=Option.some.inj ((show Tryd.prog.funcNamed "platter/platterlaw13.ChannelMark"=some 3 by kernel_rfl).symm.trans hf) |>.symm
   obtain rfl:fn=Tryd.f3:=(Option.some.inj (Tryd.func3.symm.trans hfn)).symm
   refine⟨by kernel_rfl,fun j t ht=>?_⟩
   have hall:(Tryd.f3.params.toList.all fun t=>!Tryd.prog.wantsStandIn t)=true:=by kernel_rfl
   have:=List.all_eq_true.1 hall t (List.mem_of_getElem? (i:=j) (by simpa using ht))
   have h2:Tryd.prog.wantsStandIn t=false:=by simpa using this
   exact h2)
  (by kernel_rfl)
#print axioms proved
end Go.Proofs.YtibkjeolahobbaaDoor.mark

/- A part of the proof. -/
import Derived.Test.YtpcpcjbbdgmohaaPgTsI
set_option linter.all false
section
open Go Go.Pw Go.Proofs
namespace Go.Pw
theorem bP {b:GB}{d:D5}{N:Int}(h:JU b d N) {x v:Int}(hx:0<=x/\x<b.many) (hc:D7 d.es x=none->(d.es.length:Int)<b.cache):JU b (H6 x v d) N:=by
 obtain⟨s1,s2,s3,s4,s5⟩:=QC x v d
 have hd:=OU (x:=x) (v:=v) h.dd
 refine⟨⟨by rw[s2];exact h.ok.c,by rw[s2];exact h.ok.l,by rw[s5];exact h.ok.r,by rw[s3];exact h.ok.k,by rw[s4];exact h.ok.x⟩,hd.1,?_,?_,?_,by rw[s1];exact h.mm,?_⟩
 all_goals
  unfold H6
  cases hv:D7 d.es x with
  |some w=>?_
  |none=>?_
 ·rw[Option.isSome_some,if_pos rfl]
  show Hx (d.es.map fun e=>if e.2.1=x then (e.1,x,v) else e)
  unfold Hx
  have:(d.es.map fun e=>if e.2.1=x then (e.1,x,v) else e).map (·.1)=d.es.map (·.1):=by
   rw[List.map_map]
   refine List.map_congr_left fun e _=>?_
   show (if e.2.1=x then (e.1,x,v) else e).1=e.1
   split<;>rfl
  rw[this];exact h.nn
 ·rw[Option.isSome_none,if_neg (by simp)]
  show Hx (d.es++[(d.cl,x,v)])
  unfold Hx
  rw[List.map_append,List.nodup_append]
  refine⟨h.nn,by simp,fun y hy z hz he=>?_⟩
  obtain⟨e,he1,he2⟩:=List.mem_map.1 hy
  simp only[List.map_cons,List.map_nil,List.mem_singleton] at hz
  have:=h.lt e he1
  omega
 ·rw[Option.isSome_some,if_pos rfl]
  intro e he
  obtain⟨f,hf,rfl⟩:=List.mem_map.1 he
  have:=h.lt f hf
  show (if f.2.1=x then (f.1,x,v) else f).1<d.cl
  split<;>exact this
 ·rw[Option.isSome_none,if_neg (by simp)]
  intro e he
  show e.1<d.cl+1
  rcases List.mem_append.1 he with he|he
  ·have:=h.lt e he;omega
  ·rw[List.mem_singleton] at he;subst he;exact Nat.lt_succ_self _
 ·rw[Option.isSome_some,if_pos rfl]
  intro e he
  obtain⟨f,hf,rfl⟩:=List.mem_map.1 he
  show 0<=(if f.2.1=x then (f.1,x,v) else f).2.1/\(if f.2.1=x then (f.1,x,v) else f).2.1<b.many
  split
  ·exact hx
  ·exact h.rr f hf
 ·rw[Option.isSome_none,if_neg (by simp)]
  intro e he
  rcases List.mem_append.1 he with he|he
  ·exact h.rr e he
  ·rw[List.mem_singleton] at he;subst he;exact hx
 ·rw[Option.isSome_some,if_pos rfl]
  show ((d.es.map fun e=>if e.2.1=x then (e.1,x,v) else e).length:Int)<=b.cache
  rw[List.length_map];exact h.cc
 ·rw[Option.isSome_none,if_neg (by simp)]
  show ((d.es++[(d.cl,x,v)]).length:Int)<=b.cache
  have:=hc hv
  rw[List.length_append,List.length_singleton];omega
end Go.Pw
end
section
open Go Go.Pw Go.Proofs
namespace Go.Pw
theorem aE (b:GB) (j:Ck) (d:D5):(Ei b j d).cl=d.cl:=(LZ b _ _ _).2.2.1
theorem Qc {b:GB}(g:b.Good) {d:D5}{N:Int}(h:JU b d N) {j:Ck}(hj:0<=j.cost/\j.cost<=10):JU b (Ei b j d) (N+7):=by
 refine⟨aD g h.ok hj,?_,?_,?_,?_,?_,?_⟩
 ·rw[EX];exact E6 h.dd _
 ·rw[EX];exact NI h.nn _
 ·rw[EX,aE];exact fun e he=>h.lt e (List.mem_filter.1 he).1
 ·rw[EX];exact fun e he=>h.rr e (List.mem_filter.1 he).1
 ·rw[IZ,EV];exact h.mm
 ·rw[EX]
  have h1:=List.length_filter_le (fun e=>!CZ b j.band e) d.es
  have h2:=h.cc
  omega
theorem KD {b:GB}{d:D5}{N M:Int}(h:JU b d N) (hM:N<=M):JU b d M:=⟨Mh h.ok hM,h.dd,h.nn,h.lt,h.rr,h.mm,h.cc⟩
theorem RO {j:Ck}(h:JB j):0<=j.cost/\j.cost<=10:=by unfold JB at h;omega
theorem Yd {b:GB}(g:b.Good) {d:D5}{N:Int}(h:JU b d N) (x:Int):JU b (Gm b x d) (N+7)/\(D7 (Gm b x d).es x=none->((Gm b x d).es.length:Int)<b.cache):=by
 have g1:=g.c
 have hcc:=h.cc
 unfold Gm
 cases hf:S3 b x d with
 |true =>
  rw[if_pos rfl]
  unfold S3 at hf
  rw[Bool.and_eq_true,decide_eq_true_eq] at hf
  have hc:=hf.2
  have hne:d.es≠[]:=fun he=>by rw[he] at hc;simp at hc;omega
  have hl100:d.es.length<=100:=by omega
  have hJB:=fun j hj=>@Oh b g d.es h.rr hl100 j hj
  have hmm:=fun j hj=>@Wx b d.es j hj
  cases hj:Fa b d.es with
  |nil=>exact absurd hj (Su g h.rr hne)
  |cons m l =>
   rw[hj] at hJB hmm
   dsimp only
   have hmem:II m l∈m::l:=by
    rcases Sl l m with h1|h1
    ·rw[h1];exact List.mem_cons_self
    ·exact List.mem_cons_of_mem _ h1
   have h1:=Qc g h (RO (hJB _ hmem).1)
   refine⟨h1,fun _=>?_⟩
   obtain⟨k,hk,hk1,e,he,hb⟩:=hmm _ hmem
   rw[EX]
   have h2:(d.es.filter fun e=>!CZ b (II m l).band e).length<d.es.length:=by
    rw[List.length_filter_lt_length_iff_exists]
    refine⟨e,he,?_⟩
    unfold CZ
    rw[hk1,hb];simp
   omega
 |false =>
  rw[if_neg (by simp)]
  refine⟨KD h (by omega),fun hv=>?_⟩
  unfold S3 at hf
  rw[hv,Option.isSome_none,Bool.not_false,Bool.true_and,decide_eq_false_iff_not] at hf
  omega
theorem V5 {b:GB}(g:b.Good) {d:D5}{N:Int}(h:JU b d N) {x v:Int}(hx:0<=x/\x<b.many):JU b (Ef b x v d) (N+7):=by
 obtain⟨h1,h2⟩:=Yd g h x
 exact bP h1 hx h2
theorem Xz {b:GB}(g:b.Good):JU b (Dl b) 0:=by
 have g1:=g.n;have g2:=g.c
 refine⟨⟨fun i hi=>?_,by simp[Dl],⟨by simp[Dl],by simp[Dl]⟩,⟨by simp[Dl],by simp[Dl]⟩,⟨by simp[Dl],by simp[Dl]⟩⟩,by simp[Dl,Co],by simp[Dl,Hx],fun e he=>(by cases he),fun e he=>(by cases he),by simp[Dl],by simp[Dl];omega⟩
 unfold Dl at hi ⊢
 dsimp only at hi ⊢
 rw[List.length_replicate] at hi
 rw[List.getElem?_replicate,if_pos hi]
 exact⟨by decide,by decide⟩
theorem SQ {b:GB}(g:b.Good):∀(l:List Ga) {d:D5}{N:Int},JU b d N->(∀w,w∈l->0<=w.1/\w.1<b.many)->JU b (l.foldl (fun d w=>Ef b w.1 w.2 d) d) (N+7*l.length)
 |[],d,N,h,_=>KD h (by simp)
 |w::l,d,N,h,hw=>by
  have h1:=SQ g l (V5 g (v:=w.2) h (hw w List.mem_cons_self)) fun u hu=>hw u (List.mem_cons_of_mem _ hu)
  exact KD h1 (by rw[List.length_cons];omega)
theorem Mk {b:GB}(g:b.Good) {l:List Ga}(hl:∀w,w∈l->0<=w.1/\w.1<b.many):JU b (FC b l) (7*l.length) :=
 KD (SQ g l (Xz g) hl) (by omega)
theorem Om {b:GB}(g:b.Good):∀(js:List Ck) {d:D5}{N:Int},JU b d N->(∀j,j∈js->JB j)->JU b (FB b js d) (N+7*js.length)
 |[],d,N,h,_=>KD h (by simp)
 |j::js,d,N,h,hj=>by
  have h1:=Om g js (Qc g h (RO (hj j List.mem_cons_self))) fun u hu=>hj u (List.mem_cons_of_mem _ hu)
  exact KD h1 (by rw[List.length_cons];omega)
end Go.Pw
end
section
open Go Go.Pw Go.Proofs
namespace Go.Pw
set_option maxRecDepth 100000
set_option maxHeartbeats 6400000
def gZ (w:Ga):D:=.agg [.int .i64 w.1,.int .i64 w.2]
def J4 (l:List Ga):List D:=l.map gZ
theorem Rh (w:Ga):gZ w=.agg [.int .i64 w.1,.int .i64 w.2]:=rfl
theorem Dc (l:List Ga):(J4 l).length=l.length:=by simp[J4]
theorem G3 (l:List Ga):DY 2 (J4 l)=True:=JW fun _=>rfl
theorem Ir {l:List Ga}{i:Nat}{A:D->Prop}:Ay (J4 l)[i]? A=(i<l.length/\A (gZ (l[i]?.getD default))):=FQ
theorem Qf (l:List Ga) (x v:Int):J4 l++[.agg [.int .i64 x,.int .i64 v]]=J4 (l++[(x,v)]):=by simp[J4,gZ]
def Xn (b:GB) (d:D5) (r c m:Nat):List AV:=[.d (.int .i64 b.bands),.d (.int .i64 b.tracks),.d (.int .i64 b.blocks),.d (.int .i64 b.cache),.d (.int .i64 b.limit),.own r 0,.d (.list true []),.own c 0,.d (.int .i64 d.cost),.d (.int .i64 d.cleaned),.d (.int .i64 d.refr),.map m 0]
theorem E5 (b:GB) (d:D5) (r c m:Nat):Xn b d r c m=[.d (.int .i64 b.bands),.d (.int .i64 b.tracks),.d (.int .i64 b.blocks),.d (.int .i64 b.cache),.d (.int .i64 b.limit),.own r 0,.d (.list true []),.own c 0,.d (.int .i64 d.cost),.d (.int .i64 d.cleaned),.d (.int .i64 d.refr),.map m 0]:=rfl
def gI (b:GB) (d:D5) (o r c m:Nat):List (Nat×Nat×AE):=[(o,0,.cells (Xn b d r c m)),(r,0,.row 3 1 false (Bi d.med)),(c,0,.row 3 1 false (Bi d.cnt)),(m,0,.mapB PM (F3 d.es) d.cl)]
theorem Rc (b:GB) (d:D5) (o r c m:Nat):gI b d o r c m=[(o,0,.cells (Xn b d r c m)),(r,0,.row 3 1 false (Bi d.med)),(c,0,.row 3 1 false (Bi d.cnt)),(m,0,.mapB PM (F3 d.es) d.cl)]:=rfl
theorem WX {b:GB}{l:List Ga}{i:Nat}(h:i<l.length):Ef b (l[i]?.getD default).1 (l[i]?.getD default).2 (FC b (l.take i))=FC b (l.take (i+1)):=by
 rw[List.take_add_one,List.getElem?_eq_getElem h]
 exact(WW b (l.take i) l[i]).symm
theorem Rv {a c:Prop} [Decidable a] [Decidable c] (h1:a) (h2:c):(decide a && decide c)=true:=by rw[decide_eq_true h1,decide_eq_true h2];rfl
attribute [local congr] Dy CG CH Bn D0 Bu Bw Bv Bm BU BN BG Bp BO Br CT CU CS CV CW CX Bo CN CM Bq BS Bt BT CK C8 BR CQ CR CL CI CJ Dz BP BQ Bs CO CP
attribute [local irreducible] IntKind.wrap Cf Option.getD and or
theorem Kl (b:GB) (g:b.Good) (nl:Bool) (l:List Ga) (hl:l.length<=1000) (hw:∀w,w∈l->0<=w.1/\w.1<b.many) :
  D1 E0 Kx [] [.d (Fv b),.d (.list nl (J4 l))] (gI b (FC b l) 9 10009 20009 30009) (.ptr 9 0 0):=by
 obtain⟨R,hR⟩:∃R,FC b l=R:=⟨_,rfl⟩
 rw[hR]
 have cB:=Na b g
 rw[BX,BZ] at cB
 refine Av Nk A3 (by simp) (by simp[D4,AK,A2,AE.isHist]) (by simp[Aq,A2]) fun hwf hwo=>?_
 rw[A5];unfold Jk
 rw[Rc,E5,BX,BZ]
 (try (simp -implicitDefEqProofs only[go_sem,Dc]));repeat' first|(with_reducible first|exact tI|refine aI ?_ ?_|intro _)|((first|with_reducible refine Af ?_ ?_<;>intro _|(with_reducible refine isCall ?_);first|(refine Ad ([]) ([((7,1),(9,1)),((18,1),(10009,1)),((21,1),(20009,1)),((5,1),(30009,1))]) (cB) (by repeat' first|exact True.intro|exact rfl|refine And.intro ?_ ?_) (by simp[AW,Ah.get,AE.ren,AV.ren,AV.ren.renL,AB.get,AX,Ag,AY,AB.reach,AV.sites,AV.sites.sitesL,AB.osites]) (by simp[AL,Aq,AK,Ah.get,AY,A2,A9,AZ,AM]) (by rfl) (by simp only[Ai,Ah.get,AE.ren,AV.ren,AV.ren.renL,and_self,and_true,true_and,if_true,reduceIte];rfl) ?_))<;>try (simp -implicitDefEqProofs only[go_sem,Dc]))|simp (disch:=omega) only[A8]|((with_reducible refine Eo ?_);refine⟨(_,_),rfl,?_,?_⟩)
 all_goals first|omega|(simp<;>omega)|skip
 refine BB (α:=Nat×D5) (l0:=?l1) (m0:=?m1) (fun x=>[(12,.d (.int .i64 (x.1:Int)))]) (fun x=>[(9,.cells (Xn b x.2 10009 20009 30009)),(10009,.row 3 1 false (Bi x.2.med)),(20009,.row 3 1 false (Bi x.2.cnt)),(30009,.mapB PM (F3 x.2.es) x.2.cl)]) (fun x=>x.1<=l.length/\x.2=FC b (l.take x.1)) (fun x=>l.length-x.1) (0,(Dl b)) ?h01 ?he1 ?he21 ?hI1 ?step1
 case h01=>(simp -implicitDefEqProofs only[go_sem];rfl)
 case he1=>rfl
 case he21=>rfl
 case' step1=>(rintro⟨i,d⟩ hI;try dsimp only at hI)
 case' hI1=>try dsimp only
 ·exact⟨Nat.zero_le _,rfl⟩
 ·obtain⟨i1,i2⟩:=hI
  change d=FC b (l.take i) at i2
  by_cases hi:i<l.length
  ·have hi':(i:Int)<(l.length:Int):=by omega
   have wi:IntKind.i64.wrap ((i:Int)+1)=((i+1:Nat):Int):=by rw[BM _ (by omega)];omega
   have hnx:=WX (b:=b) hi
   rw[←i2] at hnx
   have hin:(l[i]?.getD default)∈l:=by rw[List.getElem?_eq_getElem hi,Option.getD_some];exact List.getElem_mem hi
   have hww:=hw _ hin
   have hwi:=Mk g (l:=l.take i) fun w h=>hw w (List.mem_of_mem_take h)
   rw[←i2] at hwi
   have htl:(l.take i).length<=1000:=by rw[List.length_take];omega
   obtain⟨w,hwe⟩:∃w,l[i]?.getD default=w:=⟨_,rfl⟩
   rw[hwe] at hnx hww
   have cW:=NY b g d _ (by omega) hwi w.1 w.2 hww
   rw[hnx] at cW
   obtain⟨X,hX⟩:∃X,FC b (l.take (i+1))=X:=⟨_,rfl⟩
   rw[hX] at cW
   rw[Cq,B',Cq,B'] at cW
   rw[E5]
   (try (simp -implicitDefEqProofs only[go_sem,Dc,Ir,G3,Rh,hwe,hi',hi,wi,Int.toNat_natCast,E5]));repeat' first|(with_reducible first|exact tI|refine aI ?_ ?_|intro _)|((first|with_reducible refine Af ?_ ?_<;>intro _|(with_reducible refine isCall ?_);first|(refine Ad ([((900000,0),(9,0)),((901000,0),(10009,0)),((902000,0),(20009,0)),((903000,0),(30009,0))]) ([((900000,0),(9,0)),((901000,0),(10009,0)),((902000,0),(20009,0)),((903000,0),(30009,0))]) (cW) (by repeat' first|exact True.intro|exact rfl|refine And.intro ?_ ?_) (by simp[AW,Ah.get,AE.ren,AV.ren,AV.ren.renL,AB.get,AX,Ag,AY,AB.reach,AV.sites,AV.sites.sitesL,AB.osites]) (by simp[AL,Aq,AK,Ah.get,AY,A2,A9,AZ,AM]) (by rfl) (by simp only[Ai,Ah.get,AE.ren,AV.ren,AV.ren.renL,and_self,and_true,true_and,if_true,reduceIte];rfl) ?_))<;>try (simp -implicitDefEqProofs only[go_sem,Dc,Ir,G3,Rh,hwe,hi',hi,wi,Int.toNat_natCast,E5]))|simp (disch:=omega) only[A8]|((with_reducible refine Eo ?_);refine⟨(_,_),rfl,?_,?_⟩)
   all_goals first|omega|rfl|exact .inl True.intro|exact hX.symm|trace_state
  ·have hie:i=l.length:=by omega
   have hi':¬(i:Int)<(l.length:Int):=by omega
   have hd:R=d:=by rw[i2,hie,List.take_length];exact hR.symm
   rw[hd,E5]
   (try (simp -implicitDefEqProofs only[go_sem,Dc,hi']));repeat' first|(with_reducible first|exact tI|refine aI ?_ ?_|intro _)|((first|with_reducible refine Af ?_ ?_<;>intro _)<;>try (simp -implicitDefEqProofs only[go_sem,Dc,hi']))|simp (disch:=omega) only[A8]|((with_reducible refine Eo ?_);refine⟨(_,_),rfl,?_,?_⟩)
   all_goals first|omega|rfl|exact .inl True.intro|trace_state
theorem Hb (b:GB) (g:b.Good) (nl:Bool) (l:List Ga) (hl:l.length<=60) (hw:∀w,w∈l->(0<=w.1/\w.1<b.many)/\(0<=w.2/\w.2<=999)) :
  E9 E0 JI [Fv b,.list nl (J4 l)] (.int .i64 0):=by
 have g1:=g.n;have g2:=g.t;have g3:=g.k;have g4:=g.c;have g5:=g.l
 refine Ao MF A3 (by simp) fun hwf=>?_
 rw[Az];unfold H9
 rw[BX,BZ]
 (try (simp -implicitDefEqProofs only[go_sem]));repeat' first|(with_reducible first|exact tI|refine aI ?_ ?_|intro _)|((first|with_reducible refine Af ?_ ?_<;>intro _)<;>try (simp -implicitDefEqProofs only[go_sem]))|simp (disch:=omega) only[A8]|((with_reducible refine BF ?_);refine⟨_,rfl,?_,?_⟩)
 all_goals first|omega|(simp<;>omega)|skip
 refine BB (α:=Nat) (l0:=?l2) (m0:=?m2) (fun x=>[(26,.d (.int .i64 (x:Int)))]) (fun x=>[]) (fun x=>x<=5) (fun x=>5-x) 0 ?h02 ?he2 ?he22 ?hI2 ?step2
 case h02=>(simp -implicitDefEqProofs only[go_sem];rfl)
 case he2=>rfl
 case he22=>rfl
 case' step2=>(rintro i hI;try dsimp only at hI)
 case' hI2=>try dsimp only
 ·omega
 ·rcases (show i=0\/i=1\/i=2\/i=3\/i=4\/i=5 by omega) with h|h|h|h|h|h
  ·subst h
   (try (simp -implicitDefEqProofs only[go_sem]));repeat' first|(with_reducible first|exact tI|refine aI ?_ ?_|intro _)|((first|with_reducible refine Af ?_ ?_<;>intro _)<;>try (simp -implicitDefEqProofs only[go_sem]))|simp (disch:=omega) only[A8]|((with_reducible refine BF ?_);refine⟨_,rfl,?_,?_⟩)
   all_goals first|omega|rfl|exact .inl True.intro|skip
  ·subst h
   (try (simp -implicitDefEqProofs only[go_sem]));repeat' first|(with_reducible first|exact tI|refine aI ?_ ?_|intro _)|((first|with_reducible refine Af ?_ ?_<;>intro _)<;>try (simp -implicitDefEqProofs only[go_sem]))|simp (disch:=omega) only[A8]|((with_reducible refine BF ?_);refine⟨_,rfl,?_,?_⟩)
   all_goals first|omega|rfl|exact .inl True.intro|skip
  ·subst h
   (try (simp -implicitDefEqProofs only[go_sem]));repeat' first|(with_reducible first|exact tI|refine aI ?_ ?_|intro _)|((first|with_reducible refine Af ?_ ?_<;>intro _)<;>try (simp -implicitDefEqProofs only[go_sem]))|simp (disch:=omega) only[A8]|((with_reducible refine BF ?_);refine⟨_,rfl,?_,?_⟩)
   all_goals first|omega|rfl|exact .inl True.intro|skip
  ·subst h
   (try (simp -implicitDefEqProofs only[go_sem]));repeat' first|(with_reducible first|exact tI|refine aI ?_ ?_|intro _)|((first|with_reducible refine Af ?_ ?_<;>intro _)<;>try (simp -implicitDefEqProofs only[go_sem]))|simp (disch:=omega) only[A8]|((with_reducible refine BF ?_);refine⟨_,rfl,?_,?_⟩)
   all_goals first|omega|rfl|exact .inl True.intro|skip
  ·subst h
   (try (simp -implicitDefEqProofs only[go_sem]));repeat' first|(with_reducible first|exact tI|refine aI ?_ ?_|intro _)|((first|with_reducible refine Af ?_ ?_<;>intro _)<;>try (simp -implicitDefEqProofs only[go_sem]))|simp (disch:=omega) only[A8]|((with_reducible refine BF ?_);refine⟨_,rfl,?_,?_⟩)
   all_goals first|omega|rfl|exact .inl True.intro|skip
  ·subst h
   have hl':¬(60:Int)<(l.length:Int):=by omega
   (try (simp -implicitDefEqProofs only[go_sem,Dc,hl']));repeat' first|(with_reducible first|exact tI|refine aI ?_ ?_|intro _)|((first|with_reducible refine Af ?_ ?_<;>intro _)<;>try (simp -implicitDefEqProofs only[go_sem,Dc,hl']))|simp (disch:=omega) only[A8]|((with_reducible refine BF ?_);refine⟨_,rfl,?_,?_⟩)
   all_goals first|omega|(simp<;>omega)|skip
   refine BB (α:=Nat) (l0:=?l3) (m0:=?m3) (fun x=>[(46,.d (.int .i64 (x:Int)))]) (fun x=>[]) (fun x=>x<=l.length) (fun x=>l.length-x) 0 ?h03 ?he3 ?he23 ?hI3 ?step3
   case h03=>(simp -implicitDefEqProofs only[go_sem];rfl)
   case he3=>rfl
   case he23=>rfl
   case' step3=>(rintro j hI2;try dsimp only at hI2)
   case' hI3=>try dsimp only
   ·exact Nat.zero_le _
   ·by_cases hj:j<l.length
    ·have hj':(j:Int)<(l.length:Int):=by omega
     have wj:IntKind.i64.wrap ((j:Int)+1)=((j+1:Nat):Int):=by rw[BM _ (by omega)];omega
     have hin:(l[j]?.getD default)∈l:=by rw[List.getElem?_eq_getElem hj,Option.getD_some];exact List.getElem_mem hj
     have hww:=hw _ hin
     obtain⟨w,hwe⟩:∃w,l[j]?.getD default=w:=⟨_,rfl⟩
     rw[hwe] at hww
     have cI:=Gl b g w.1
     rw[Rv hww.1.1 hww.1.2,BX,BZ] at cI
     have h1:¬w.2<0:=by omega
     have h2:¬(999:Int)<w.2:=by omega
     (try (simp -implicitDefEqProofs only[go_sem,Dc,Ir,G3,Rh,hwe,hj',hj,wj,h1,h2,Int.toNat_natCast]));repeat' first|(with_reducible first|exact tI|refine aI ?_ ?_|intro _)|((first|with_reducible refine Af ?_ ?_<;>intro _|(with_reducible refine isCall ?_);first|refine Ae cI ?_)<;>try (simp -implicitDefEqProofs only[go_sem,Dc,Ir,G3,Rh,hwe,hj',hj,wj,h1,h2,Int.toNat_natCast]))|simp (disch:=omega) only[A8]|((with_reducible refine BF ?_);refine⟨_,rfl,?_,?_⟩)
     all_goals first|omega|rfl|exact .inl True.intro|trace_state
    ·have hj':¬(j:Int)<(l.length:Int):=by omega
     (try (simp -implicitDefEqProofs only[go_sem,Dc,hj']));repeat' first|(with_reducible first|exact tI|refine aI ?_ ?_|intro _)|((first|with_reducible refine Af ?_ ?_<;>intro _)<;>try (simp -implicitDefEqProofs only[go_sem,Dc,hj']))|simp (disch:=omega) only[A8]|((with_reducible refine BF ?_);refine⟨_,rfl,?_,?_⟩)
     all_goals first|omega|rfl|exact .inl True.intro|trace_state
end Go.Pw
end
section
open Go Go.Pw Go.Proofs
namespace Go.Pw
set_option maxRecDepth 100000
set_option maxHeartbeats 3200000
theorem ZN:Cv.noR=true:=by rfl
theorem LP:Ci E0.P BD=true:=by kernel_rfl
theorem ZL:dT[(IntKind.u8.wrap 0).toNat]?=some 0:=by rfl
theorem fX:IntKind.i64.wrap (0+IntKind.i64.wrap ((UInt8.toNat 0:Nat):Int))=0:=by rfl
theorem gv:IntKind.i64.wrap (0-((0:Nat):Int))=0:=by rfl
theorem OJ {E:C3} {rs o els s}:fi E rs o els .normal s=(Gd E s rs (fun _=>True)/\N1 els (s.V.ob o)):=rfl
theorem NL {els g e n st}:N1 els (some (g,.hist e n st))=(e=els/\(st=true\/n=els.length)):=rfl
attribute [local congr] Dy CG CH Bn D0 Bu Bw Bv Bm BU BN BG Bp BO Br CT CU CS CV CW CX Bo CN CM Bq BS Bt BT CK C8 BR CQ CR CL CI CJ Dz BP BQ Bs CO CP
attribute [local irreducible] IntKind.wrap Cf Option.getD and or
theorem PV:E9 E0 D6 [.map PM []] (.fn BD [.ptr [.map PM []]]):=by
 refine Ao Fg A3 (by simp) fun hwf=>?_
 rw[Az];unfold Dv
 (try (simp -implicitDefEqProofs only[go_sem,LP]));repeat' first|(with_reducible first|exact tI|refine aI ?_ ?_|intro _)|((first|with_reducible refine Af ?_ ?_<;>intro _)<;>try (simp -implicitDefEqProofs only[go_sem,LP]))|simp (disch:=omega) only[A8]
 all_goals first|omega|rfl|exact .inl True.intro|trace_state
theorem ZM:VO E0 BD [] [.ptr [.map PM []]] []:=by
 refine T_ FI A3 ZN (by simp) fun hwf _=>?_
 rw[A5];unfold Cv
 (try (simp -implicitDefEqProofs only[go_sem]));repeat' first|(with_reducible first|exact tI|refine aI ?_ ?_|intro _)|((first|with_reducible refine Af ?_ ?_<;>intro _)<;>try (simp -implicitDefEqProofs only[go_sem]))|simp (disch:=omega) only[A8]|((with_reducible refine BF ?_);refine⟨_,rfl,?_,?_⟩)
 all_goals first|omega|(simp<;>omega)|skip
 refine BB (α:=Nat) (l0:=?l2) (m0:=?m2) (fun x=>[]) (fun x=>[(5,.mitD PM [] [])]) (fun x=>x=0) (fun x=>x) 0 ?h02 ?he2 ?he22 ?hI2 ?step2
 case h02=>(simp -implicitDefEqProofs only[go_sem];rfl)
 case he2=>rfl
 case he22=>rfl
 case' step2=>(rintro i hI;try dsimp only at hI)
 case' hI2=>try dsimp only
 ·(try (simp -implicitDefEqProofs only[go_sem]));repeat' first|(with_reducible first|exact tI|refine aI ?_ ?_|intro _)|((first|with_reducible refine Af ?_ ?_<;>intro _)<;>try (simp -implicitDefEqProofs only[go_sem]))|simp (disch:=omega) only[A8]|((with_reducible refine BF ?_);refine⟨_,rfl,?_,?_⟩)
  refine eS (fun i hi hs=>?_) (fun hall=>?_)
  ·exact absurd hi (by simp)
  ·(try (simp -implicitDefEqProofs only[go_sem,OJ,NL]));repeat' first|(with_reducible first|exact tI|refine aI ?_ ?_|intro _)|((first|with_reducible refine Af ?_ ?_<;>intro _)<;>try (simp -implicitDefEqProofs only[go_sem,OJ,NL]))|simp (disch:=omega) only[A8]|((with_reducible refine BF ?_);refine⟨_,rfl,?_,?_⟩)
   all_goals first|omega|rfl|exact .inl True.intro|exact .inr True.intro|trace_state
theorem JZ:E9 E0 E2 [.list true [],.fn BD [.ptr [.map PM []]]] (.list true []):=by
 refine Ao Gi A3 (by simp) fun hwf=>?_
 rw[Az];unfold Em
 (try (simp -implicitDefEqProofs only[go_sem]));repeat' first|(with_reducible first|exact tI|refine aI ?_ ?_|intro _)|((first|with_reducible refine Af ?_ ?_<;>intro _)<;>try (simp -implicitDefEqProofs only[go_sem]))|simp (disch:=omega) only[A8]|((with_reducible refine f8 ?_);refine⟨_,rfl,?_⟩)
 refine bH (α:=Bool) (so:=Le) (l0:=?l1) (m0:=?m1) (fun x=>[(5000002,.cells [.d (.list x [])])]) (fun n x=>x=true) (fun e x=>False) true (ZM) LP ?h01 ?he1 (by simp[PC.noR]) ?hw1 ?hI1 ?step1 ?hend1 ?hjump1
 case h01=>(simp -implicitDefEqProofs only[go_sem];(try simp only[or_true,true_or,true_and]);first|rfl|(refine⟨.inl ⟨_,rfl,rfl⟩,?_⟩<;>rfl)|exact⟨.inl ⟨⟨_,rfl,rfl⟩,rfl⟩,rfl⟩|exact⟨.inr ⟨rfl,rfl⟩,rfl⟩)
 case he1=>rfl
 case hw1=>simp -implicitDefEqProofs only[go_sem]
 case' hjump1=>(rintro e x hI;try dsimp only at hI)
 case' hend1=>(rintro x hI;try dsimp only at hI)
 case' step1=>(rintro n x ds hds hI;try dsimp only at hI)
 case' hI1=>try dsimp only
 ·rw[List.getElem?_nil] at hds;cases hds
 ·subst hI
  (try (simp -implicitDefEqProofs only[go_sem]));repeat' first|(with_reducible first|exact tI|refine aI ?_ ?_|intro _)|((first|with_reducible refine Af ?_ ?_<;>intro _)<;>try (simp -implicitDefEqProofs only[go_sem]))|simp (disch:=omega) only[A8]|((with_reducible refine f8 ?_);refine⟨_,rfl,?_⟩)
  all_goals first|omega|rfl|exact .inl True.intro|trace_state
theorem K9:E9 E0 GX [.fn BD [.ptr [.map PM []]]] (.list true []):=by
 have c1:=JZ
 refine Ao Iv A3 (by simp) fun hwf=>?_
 rw[Az];unfold F5
 (try (simp -implicitDefEqProofs only[go_sem]));repeat' first|(with_reducible first|exact tI|refine aI ?_ ?_|intro _)|((first|with_reducible refine Af ?_ ?_<;>intro _|(with_reducible refine isCall ?_);first|refine Ae c1 ?_)<;>try (simp -implicitDefEqProofs only[go_sem]))|simp (disch:=omega) only[A8]
 all_goals first|omega|rfl|exact .inl True.intro|trace_state
theorem PE:E9 E0 Hp [.int .u64 0] (.int .i64 0):=by
 refine Ao Kh A3 (by simp) fun hwf=>?_
 rw[Az];unfold HD
 (try (simp -implicitDefEqProofs only[go_sem,ZL,fX]));repeat' first|(with_reducible first|exact tI|refine aI ?_ ?_|intro _)|((first|with_reducible refine Af ?_ ?_<;>intro _)<;>try (simp -implicitDefEqProofs only[go_sem,ZL,fX]))|simp (disch:=omega) only[A8]
 all_goals first|omega|rfl|exact .inl True.intro|trace_state
theorem Ri:E9 E0 JN [.int .u64 0] (.int .i64 0):=by
 have c1:=PE
 refine Ao MJ A3 (by simp) fun hwf=>?_
 rw[Az];unfold IB
 (try (simp -implicitDefEqProofs only[go_sem]));repeat' first|(with_reducible first|exact tI|refine aI ?_ ?_|intro _)|((first|with_reducible refine Af ?_ ?_<;>intro _|(with_reducible refine isCall ?_);first|refine Ae c1 ?_)<;>try (simp -implicitDefEqProofs only[go_sem]))|simp (disch:=omega) only[A8]
 all_goals first|omega|rfl|exact .inl True.intro|trace_state
theorem PZ:E9 E0 Dp [.list true [],.int .i64 0,.int .i64 0] (.tup []):=by
 refine Ao FH A3 (by simp) fun hwf=>?_
 rw[Az];unfold Di
 (try (simp -implicitDefEqProofs only[go_sem]));repeat' first|(with_reducible first|exact tI|refine aI ?_ ?_|intro _)|((first|with_reducible refine Af ?_ ?_<;>intro _)<;>try (simp -implicitDefEqProofs only[go_sem]))|simp (disch:=omega) only[A8]|((with_reducible refine BF ?_);refine⟨_,rfl,?_,?_⟩)
 all_goals first|omega|(simp<;>omega)|skip
 refine BB (α:=Nat) (l0:=?l3) (m0:=?m3) (fun x=>[(6,.d (.int .i64 (x:Int)))]) (fun x=>[]) (fun x=>x=1) (fun x=>x) 1 ?h03 ?he3 ?he23 ?hI3 ?step3
 case h03=>(simp -implicitDefEqProofs only[go_sem];rfl)
 case he3=>rfl
 case he23=>rfl
 case' step3=>(rintro i hI;try dsimp only at hI)
 case' hI3=>try dsimp only
 ·subst hI
  (try (simp -implicitDefEqProofs only[go_sem]));repeat' first|(with_reducible first|exact tI|refine aI ?_ ?_|intro _)|((first|with_reducible refine Af ?_ ?_<;>intro _)<;>try (simp -implicitDefEqProofs only[go_sem]))|simp (disch:=omega) only[A8]|((with_reducible refine BF ?_);refine⟨_,rfl,?_,?_⟩)
  all_goals first|omega|rfl|exact .inl True.intro|trace_state
theorem SZ:E9 E0 Er [.list true [],.int .i64 0,.int .i64 0,.int .i64 0] (.tup []):=by
 have c1:=PZ
 refine Ao GV A3 (by simp) fun hwf=>?_
 rw[Az];unfold EU
 (try (simp -implicitDefEqProofs only[go_sem]));repeat' first|(with_reducible first|exact tI|refine aI ?_ ?_|intro _)|((first|with_reducible refine Af ?_ ?_<;>intro _)<;>try (simp -implicitDefEqProofs only[go_sem]))|simp (disch:=omega) only[A8]|((with_reducible refine BF ?_);refine⟨_,rfl,?_,?_⟩)
 all_goals first|omega|(simp<;>omega)|skip
 refine BB (α:=Nat) (l0:=?l4) (m0:=?m4) (fun x=>[(1,.d (.int .i64 (x:Int)))]) (fun x=>[]) (fun x=>x=0) (fun x=>x) 0 ?h04 ?he4 ?he24 ?hI4 ?step4
 case h04=>(simp -implicitDefEqProofs only[go_sem];rfl)
 case he4=>rfl
 case he24=>rfl
 case' step4=>(rintro i hI;try dsimp only at hI)
 case' hI4=>try dsimp only
 ·subst hI
  (try (simp -implicitDefEqProofs only[go_sem,gv]));repeat' first|(with_reducible first|exact tI|refine aI ?_ ?_|intro _)|((first|with_reducible refine Af ?_ ?_<;>intro _|(with_reducible refine isCall ?_);first|refine Ae c1 ?_)<;>try (simp -implicitDefEqProofs only[go_sem,gv]))|simp (disch:=omega) only[A8]|((with_reducible refine BF ?_);refine⟨_,rfl,?_,?_⟩)
  all_goals first|omega|rfl|exact .inl True.intro|trace_state
theorem NX:E9 E0 F9 [.list true []] (.tup []):=by
 have c1:=SZ
 have c2:=Ri
 refine Ao IT A3 (by simp) fun hwf=>?_
 rw[Az];unfold Fk
 (try (simp -implicitDefEqProofs only[go_sem]));repeat' first|(with_reducible first|exact tI|refine aI ?_ ?_|intro _)|((first|with_reducible refine Af ?_ ?_<;>intro _|(with_reducible refine isCall ?_);first|refine Ae c2 ?_|refine Ae c1 ?_)<;>try (simp -implicitDefEqProofs only[go_sem]))|simp (disch:=omega) only[A8]
 all_goals first|omega|rfl|exact .inl True.intro|trace_state
theorem La:E9 E0 Gs [.fn BD [.ptr [.map PM []]]] (.list true []):=by
 have c1:=K9
 have c2:=NX
 refine Ao JQ A3 (by simp) fun hwf=>?_
 rw[Az];unfold GO
 (try (simp -implicitDefEqProofs only[go_sem]));repeat' first|(with_reducible first|exact tI|refine aI ?_ ?_|intro _)|((first|with_reducible refine Af ?_ ?_<;>intro _|(with_reducible refine isCall ?_);first|refine Ae c1 ?_|refine Ae c2 ?_)<;>try (simp -implicitDefEqProofs only[go_sem]))|simp (disch:=omega) only[A8]
 all_goals first|omega|rfl|exact .inl True.intro|trace_state
def YL (d:D5):D:=.agg [.list false (Bi d.med),.list true [],.list false (Bi d.cnt),.int .i64 d.cost,.int .i64 d.cleaned,.int .i64 d.refr]
theorem Pt (d:D5):YL d=.agg [.list false (Bi d.med),.list true [],.list false (Bi d.cnt),.int .i64 d.cost,.int .i64 d.cleaned,.int .i64 d.refr]:=rfl
def dl (d:D5):List AV:=[.own 901000 0,.d (.list true []),.own 902000 0,.d (.int .i64 d.cost),.d (.int .i64 d.cleaned),.d (.int .i64 d.refr)]
theorem VU (d:D5):dl d=[.own 901000 0,.d (.list true []),.own 902000 0,.d (.int .i64 d.cost),.d (.int .i64 d.cleaned),.d (.int .i64 d.refr)]:=rfl
def fa (b:GB) (d:D5):List AV:=[.d (.int .i64 b.bands),.d (.int .i64 b.tracks),.d (.int .i64 b.blocks),.d (.int .i64 b.cache),.d (.int .i64 b.limit),.own 901000 0,.d (.list true []),.own 902000 0,.d (.int .i64 d.cost),.d (.int .i64 d.cleaned),.d (.int .i64 d.refr),.d (.map PM [])]
theorem VV (b:GB) (d:D5):fa b d=[.d (.int .i64 b.bands),.d (.int .i64 b.tracks),.d (.int .i64 b.blocks),.d (.int .i64 b.cache),.d (.int .i64 b.limit),.own 901000 0,.d (.list true []),.own 902000 0,.d (.int .i64 d.cost),.d (.int .i64 d.cleaned),.d (.int .i64 d.refr),.d (.map PM [])]:=rfl
theorem NZ (b:GB) (d:D5) (cl:Nat) :
  D1 E0 GA [(900000,0,.cells (Xn b d 901000 902000 803000)),(901000,0,.row 3 1 false (Bi d.med)),(902000,0,.row 3 1 false (Bi d.cnt)),(803000,0,.mapB PM [] cl)] [.ptr 900000 0 0]
   [(900000,0,.cells (fa b d)),(901000,0,.row 3 1 false (Bi d.med)),(902000,0,.row 3 1 false (Bi d.cnt)),(3,0,.cells (dl d))] (.agg (dl d)):=by
 have c1:=PV
 have c2:=La
 rw[E5,VV,VU]
 refine Av IV A3 (by simp) (by simp[D4,AK,A2,AE.isHist]) (by simp[Aq,A2]) fun hwf hwo=>?_
 rw[A5];unfold Fm
 (try (simp -implicitDefEqProofs only[go_sem]));repeat' first|(with_reducible first|exact tI|refine aI ?_ ?_|intro _)|((first|with_reducible refine Af ?_ ?_<;>intro _|(with_reducible refine isCall ?_);first|refine Ae c1 ?_|refine Ae c2 ?_)<;>try (simp -implicitDefEqProofs only[go_sem]))|simp (disch:=omega) only[A8]|((with_reducible refine BF ?_);refine⟨_,rfl,?_,?_⟩)
 all_goals first|omega|(simp<;>omega)|skip
 refine BB (α:=Nat) (l0:=?l5) (m0:=?m5) (fun x=>[(17,.d (.int .i64 (x:Int)))]) (fun x=>[]) (fun x=>x=0) (fun x=>x) 0 ?h05 ?he5 ?he25 ?hI5 ?step5
 case h05=>(simp -implicitDefEqProofs only[go_sem];rfl)
 case he5=>rfl
 case he25=>rfl
 case' step5=>(rintro i hI;try dsimp only at hI)
 case' hI5=>try dsimp only
 ·subst hI
  (try (simp -implicitDefEqProofs only[go_sem]));repeat' first|(with_reducible first|exact tI|refine aI ?_ ?_|intro _)|((first|with_reducible refine Af ?_ ?_<;>intro _)<;>try (simp -implicitDefEqProofs only[go_sem]))|simp (disch:=omega) only[A8]|((with_reducible refine BF ?_);refine⟨_,rfl,?_,?_⟩)
  all_goals first|omega|rfl|exact .inl True.intro|trace_state
end Go.Pw
end
section
open Go Go.Pw Go.Proofs
namespace Go.Pw
set_option maxRecDepth 100000
set_option maxHeartbeats 6400000
def ez (b:GB) (l:List Ga):D5:=FB b (Fa b (FC b l).es) (FC b l)
theorem Up (b:GB) {js:List Ck}{i:Nat}(h:i<js.length) (d:D5):Ei b (js[i]?.getD default) (FB b (js.take i) d)=FB b (js.take (i+1)) d:=by
 rw[List.take_add_one,List.getElem?_eq_getElem h]
 unfold FB
 rw[List.foldl_append];rfl
theorem P7 {b:GB}(g:b.Good) {d:D5}{N:Int}(h:JU b d N):d.es.length<=100:=by have:=h.cc;have:=g.c;omega
theorem Wy (b:GB) (g:b.Good) (es:List Be):(Fa b es).length<=6:=by
 have h1:(Fa b es).length<=b.bands.toNat:=by
  unfold Fa DJ
  exact Nat.le_trans (List.length_filter_le _ _) (by simp)
 have:=g.n
 omega
attribute [local congr] Dy CG CH Bn D0 Bu Bw Bv Bm BU BN BG Bp BO Br CT CU CS CV CW CX Bo CN CM Bq BS Bt BT CK C8 BR CQ CR CL CI CJ Dz BP BQ Bs CO CP
attribute [local irreducible] IntKind.wrap Cf Option.getD and or
theorem Lc (b:GB) (g:b.Good) (nl:Bool) (l:List Ga) (hl:l.length<=60) (hw:∀w,w∈l->(0<=w.1/\w.1<b.many)/\(0<=w.2/\w.2<=999)) :
  E9 E0 JH [Fv b,.list nl (J4 l)] (.tup [YL (ez b l),.int .i64 0]):=by
 have c1:=Hb b g nl l hl hw
 have c2:=Kl b g nl l (by omega) fun w h=>(hw w h).1
 have hwi:=Mk g (l:=l) fun w h=>(hw w h).1
 have he:=NN g hwi.rr
 have hJl:=Wy b g (FC b l).es
 have cJ:=Jc b g (FC b l) hwi.dd hwi.nn hwi.rr (P7 g hwi)
 have hJB:=fun j hj=>@Oh b g (FC b l).es hwi.rr (P7 g hwi) j hj
 have hfl:FB b (Fa b (FC b l).es) (FC b l)=ez b l:=rfl
 obtain⟨J,hJ⟩:∃J,Fa b (FC b l).es=J:=⟨_,rfl⟩
 obtain⟨R,hR⟩:∃R,FC b l=R:=⟨_,rfl⟩
 rw[hJ] at cJ hJB hJl he hfl
 rw[hR] at c2 hwi he cJ hfl
 obtain⟨X,hX⟩:∃X,ez b l=X:=⟨_,rfl⟩
 rw[hX] at hfl ⊢
 rw[hfl] at he
 rw[Rc,E5] at c2
 rw[Cq,B'] at cJ
 rw[BX,BZ] at c1 c2
 refine Ao ME A3 (by simp) fun hwf=>?_
 rw[Az];unfold H8
 rw[BX,BZ,Pt]
 (try (simp -implicitDefEqProofs only[go_sem,Dc,BJ]));repeat' first|(with_reducible first|exact tI|refine aI ?_ ?_|intro _)|((first|with_reducible refine Af ?_ ?_<;>intro _|(with_reducible refine isCall ?_);first|refine Ae c1 ?_|(refine Ad ([]) ([((9,0),(19,0)),((10009,0),(10019,0)),((20009,0),(20019,0)),((30009,0),(30019,0))]) (c2) (by repeat' first|exact True.intro|exact rfl|refine And.intro ?_ ?_) (by simp[AW,Ah.get,AE.ren,AV.ren,AV.ren.renL,AB.get,AX,Ag,AY,AB.reach,AV.sites,AV.sites.sitesL,AB.osites]) (by simp[AL,Aq,AK,Ah.get,AY,A2,A9,AZ,AM]) (by rfl) (by simp only[Ai,Ah.get,AE.ren,AV.ren,AV.ren.renL,and_self,and_true,true_and,if_true,reduceIte];rfl) ?_)|(refine Ad ([((900000,0),(19,0)),((901000,0),(10019,0)),((902000,0),(20019,0)),((903000,0),(30019,0))]) ([((900000,0),(19,0)),((901000,0),(10019,0)),((902000,0),(20019,0)),((903000,0),(30019,0))]) (cJ) (by repeat' first|exact True.intro|exact rfl|refine And.intro ?_ ?_) (by simp[AW,Ah.get,AE.ren,AV.ren,AV.ren.renL,AB.get,AX,Ag,AY,AB.reach,AV.sites,AV.sites.sitesL,AB.osites]) (by simp[AL,Aq,AK,Ah.get,AY,A2,A9,AZ,AM]) (by rfl) (by simp only[Ai,Ah.get,AE.ren,AV.ren,AV.ren.renL,and_self,and_true,true_and,if_true,reduceIte];rfl) ?_))<;>try (simp -implicitDefEqProofs only[go_sem,Dc,BJ]))|simp (disch:=omega) only[A8]|((with_reducible refine Eo ?_);refine⟨(_,_),rfl,?_,?_⟩)
 all_goals first|omega|(simp<;>omega)|skip
 refine BB (α:=Nat×D5) (l0:=?l1) (m0:=?m1) (fun x=>[(23,.d (.int .i64 (x.1:Int)))]) (fun x=>[(19,.cells (Xn b x.2 10019 20019 30019)),(10019,.row 3 1 false (Bi x.2.med)),(20019,.row 3 1 false (Bi x.2.cnt)),(30019,.mapB PM (F3 x.2.es) x.2.cl)]) (fun x=>x.1<=J.length/\x.2=FB b (J.take x.1) R) (fun x=>J.length-x.1) (0,R) ?h01 ?he1 ?he21 ?hI1 ?step1
 case h01=>(simp -implicitDefEqProofs only[go_sem];rfl)
 case he1=>rfl
 case he21=>rfl
 case' step1=>(rintro⟨i,d⟩ hI;try dsimp only at hI)
 case' hI1=>try dsimp only
 ·exact⟨Nat.zero_le _,rfl⟩
 ·obtain⟨i1,i2⟩:=hI
  change d=FB b (J.take i) R at i2
  by_cases hi:i<J.length
  ·have hi':(i:Int)<(J.length:Int):=by omega
   have wi:IntKind.i64.wrap ((i:Int)+1)=((i+1:Nat):Int):=by rw[BM _ (by omega)];omega
   have hnx:=Up b hi R
   rw[←i2] at hnx
   have hin:(J[i]?.getD default)∈J:=by rw[List.getElem?_eq_getElem hi,Option.getD_some];exact List.getElem_mem hi
   have hjb:=hJB _ hin
   have hfi:=Om g (J.take i) hwi fun j h=>(hJB j (List.mem_of_mem_take h)).1
   rw[←i2] at hfi
   have htl:(J.take i).length<=6:=by rw[List.length_take];omega
   obtain⟨j,hje⟩:∃j,J[i]?.getD default=j:=⟨_,rfl⟩
   rw[hje] at hnx hjb
   have cC:=I6 b g j d _ (by omega) hfi.ok hfi.dd hfi.nn hfi.rr hfi.mm hjb.2 (RO hjb.1)
   rw[hnx] at cC
   obtain⟨Y,hY⟩:∃Y,FB b (J.take (i+1)) R=Y:=⟨_,rfl⟩
   rw[hY] at cC
   rw[Cq,B',Cq,B',Bx] at cC
   rw[E5]
   (try (simp -implicitDefEqProofs only[go_sem,BJ,CA,CE,Bx,hje,hi',hi,wi,Int.toNat_natCast,E5]));repeat' first|(with_reducible first|exact tI|refine aI ?_ ?_|intro _)|((first|with_reducible refine Af ?_ ?_<;>intro _|(with_reducible refine isCall ?_);first|(refine Ad ([((900000,0),(19,0)),((901000,0),(10019,0)),((902000,0),(20019,0)),((903000,0),(30019,0))]) ([((900000,0),(19,0)),((901000,0),(10019,0)),((902000,0),(20019,0)),((903000,0),(30019,0))]) (cC) (by repeat' first|exact True.intro|exact rfl|refine And.intro ?_ ?_) (by simp[AW,Ah.get,AE.ren,AV.ren,AV.ren.renL,AB.get,AX,Ag,AY,AB.reach,AV.sites,AV.sites.sitesL,AB.osites]) (by simp[AL,Aq,AK,Ah.get,AY,A2,A9,AZ,AM]) (by rfl) (by simp only[Ai,Ah.get,AE.ren,AV.ren,AV.ren.renL,and_self,and_true,true_and,if_true,reduceIte];rfl) ?_))<;>try (simp -implicitDefEqProofs only[go_sem,BJ,CA,CE,Bx,hje,hi',hi,wi,Int.toNat_natCast,E5]))|simp (disch:=omega) only[A8]|((with_reducible refine Eo ?_);refine⟨(_,_),rfl,?_,?_⟩)
   all_goals first|omega|rfl|exact .inl True.intro|exact hY.symm|trace_state
  ·have hie:i=J.length:=by omega
   have hi':¬(i:Int)<(J.length:Int):=by omega
   have hd:d=X:=by rw[i2,hie,List.take_length];exact hfl
   have cS:=NZ b X X.cl
   rw[E5,VV,VU] at cS
   have hce:F3 X.es=[]:=by rw[he];rfl
   rw[hd,E5,hce]
   (try (simp -implicitDefEqProofs only[go_sem,BJ,hi']));repeat' first|(with_reducible first|exact tI|refine aI ?_ ?_|intro _)|((first|with_reducible refine Af ?_ ?_<;>intro _|(with_reducible refine isCall ?_);first|(refine Ad ([((900000,0),(19,0)),((901000,0),(10019,0)),((902000,0),(20019,0)),((803000,0),(30019,0))]) ([((900000,0),(19,0)),((901000,0),(10019,0)),((902000,0),(20019,0)),((3,0),(30019,1))]) (cS) (by repeat' first|exact True.intro|exact rfl|refine And.intro ?_ ?_) (by simp[AW,Ah.get,AE.ren,AV.ren,AV.ren.renL,AB.get,AX,Ag,AY,AB.reach,AV.sites,AV.sites.sitesL,AB.osites]) (by simp[AL,Aq,AK,Ah.get,AY,A2,A9,AZ,AM]) (by rfl) (by simp only[Ai,Ah.get,AE.ren,AV.ren,AV.ren.renL,and_self,and_true,true_and,if_true,reduceIte];rfl) ?_))<;>try (simp -implicitDefEqProofs only[go_sem,BJ,hi']))|simp (disch:=omega) only[A8]|((with_reducible refine Eo ?_);refine⟨(_,_),rfl,?_,?_⟩)
   all_goals first|omega|rfl|exact .inl True.intro|trace_state
theorem H2 (b:GB) (g:b.Good) (nl:Bool) (l:List Ga) (hl:l.length<=60) (hw:∀w,w∈l->(0<=w.1/\w.1<b.many)/\(0<=w.2/\w.2<=999)) (x:Nat) (hx:(x:Int)<b.many) :
  E9 E0 J8 [Fv b,.list nl (J4 l),.int .i64 (x:Int)] (.tup [.int .i64 (E8 (FC b l) x),.int .i64 0]):=by
 have c1:=Hb b g nl l hl hw
 have c2:=Kl b g nl l (by omega) fun w h=>(hw w h).1
 have hwi:=Mk g (l:=l) fun w h=>(hw w h).1
 have cI:=Gl b g (x:Int)
 rw[Rv (Int.natCast_nonneg x) hx,BX,BZ] at cI
 have hmm:=hwi.mm
 obtain⟨R,hR⟩:∃R,FC b l=R:=⟨_,rfl⟩
 rw[hR] at c2 hmm ⊢
 rw[Rc,E5] at c2
 rw[BX,BZ] at c1 c2
 have hty:=Tt (x:Int)
 have hxl:x<R.med.length:=by omega
 have hxl':(x:Int)<(R.med.length:Int):=by omega
 refine Ao Mx A3 (by simp) fun hwf=>?_
 rw[Az];unfold I9
 rw[BX,BZ]
 unfold E8
 cases hv:D7 R.es (x:Int) with
 |some w =>
  have hlk:=Oe hv
  rw[←KX] at hlk
  rw[Option.getD_some]
  (try (simp -implicitDefEqProofs only[go_sem,hlk,hty]));repeat' first|(with_reducible first|exact tI|refine aI ?_ ?_|intro _)|((first|with_reducible refine Af ?_ ?_<;>intro _|(with_reducible refine isCall ?_);first|refine Ae c1 ?_|refine Ae cI ?_|(refine Ad ([]) ([((9,0),(24,0)),((10009,0),(10024,0)),((20009,0),(20024,0)),((30009,0),(30024,0))]) (c2) (by repeat' first|exact True.intro|exact rfl|refine And.intro ?_ ?_) (by simp[AW,Ah.get,AE.ren,AV.ren,AV.ren.renL,AB.get,AX,Ag,AY,AB.reach,AV.sites,AV.sites.sitesL,AB.osites]) (by simp[AL,Aq,AK,Ah.get,AY,A2,A9,AZ,AM]) (by rfl) (by simp only[Ai,Ah.get,AE.ren,AV.ren,AV.ren.renL,and_self,and_true,true_and,if_true,reduceIte];rfl) ?_))<;>try (simp -implicitDefEqProofs only[go_sem,hlk,hty]))|simp (disch:=omega) only[A8]
  all_goals first|omega|rfl|exact .inl True.intro|trace_state
 |none =>
  have hlk:=Og hv
  rw[←KX] at hlk
  rw[Option.getD_none]
  (try (simp -implicitDefEqProofs only[go_sem,hlk,hty,hxl,hxl',Int.toNat_natCast]));repeat' first|(with_reducible first|exact tI|refine aI ?_ ?_|intro _)|((first|with_reducible refine Af ?_ ?_<;>intro _|(with_reducible refine isCall ?_);first|refine Ae c1 ?_|refine Ae cI ?_|(refine Ad ([]) ([((9,0),(24,0)),((10009,0),(10024,0)),((20009,0),(20024,0)),((30009,0),(30024,0))]) (c2) (by repeat' first|exact True.intro|exact rfl|refine And.intro ?_ ?_) (by simp[AW,Ah.get,AE.ren,AV.ren,AV.ren.renL,AB.get,AX,Ag,AY,AB.reach,AV.sites,AV.sites.sitesL,AB.osites]) (by simp[AL,Aq,AK,Ah.get,AY,A2,A9,AZ,AM]) (by rfl) (by simp only[Ai,Ah.get,AE.ren,AV.ren,AV.ren.renL,and_self,and_true,true_and,if_true,reduceIte];rfl) ?_))<;>try (simp -implicitDefEqProofs only[go_sem,hlk,hty,hxl,hxl',Int.toNat_natCast]))|simp (disch:=omega) only[A8]
  all_goals first|omega|rfl|exact .inl True.intro|trace_state
end Go.Pw
end

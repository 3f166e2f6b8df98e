/- A part of the proof. -/
import Derived.Test.YtpcpcjbbdgmohaaPgTsC
set_option linter.all false
section
open Go Go.Pw Go.Proofs
namespace Go.Pw
set_option maxRecDepth 100000
set_option maxHeartbeats 3200000
def En (l:List Ck):List D:=l.map PY
theorem BJ (l:List Ck):(En l).length=l.length:=by simp[En]
theorem CE (l:List Ck):DY 3 (En l)=True:=JW fun _=>rfl
theorem CA {l:List Ck}{i:Nat}{A:D->Prop}:Ay (En l)[i]? A=(i<l.length/\A (PY (l[i]?.getD default))):=FQ
theorem Uf (l:List Ck) (n:Nat):(En l).take n=En (l.take n):=by simp[En,List.map_take]
theorem QR (l:List Ck) (i:Nat) (j:Ck):(En l).set i (.agg [.int .i64 j.band,.int .i64 j.cost,.int .i64 j.blocks])=En (l.set i j):=by
 rw[←Bx];simp[En,List.map_set]
def Y' (j:Ck):Bool:=decide (j.blocks=0)
def Vq (j:Ck):Bool:=!Y' j
theorem Xp {l L:List Ck}{i j:Nat}(hij:i<j) (hj:j<l.length) (hL:L.length=l.length) (h1:L.take i=(l.take j).filter Vq) (h2:L.drop j=l.drop j) :
  (Y' (l[j]?.getD default)=true->L.take i=(l.take (j+1)).filter Vq/\L.drop (j+1)=l.drop (j+1)) /\
  (Y' (l[j]?.getD default)=false->(L.set i (l[j]?.getD default)).take (i+1)=(l.take (j+1)).filter Vq/\(L.set i (l[j]?.getD default)).drop (j+1)=l.drop (j+1))/\L[j]?.getD default=l[j]?.getD default:=by
 have e0:L.drop (j+1)=l.drop (j+1):=by
  have:=congrArg (List.drop 1) h2
  simpa[List.drop_drop,Nat.add_comm] using this
 have e1:l.take (j+1)=l.take j++[l[j]?.getD default]:=by
  rw[List.take_add_one,List.getElem?_eq_getElem hj,Option.getD_some];rfl
 have e2:L[j]?=l[j]?:=by
  have a:=congrArg (fun q=>q[0]?) h2
  simpa using a
 refine⟨fun hn=>⟨?_,e0⟩,fun hn=>⟨?_,?_⟩,by rw[e2]⟩
 ·rw[e1,List.filter_append,←h1]
  simp[Vq,hn]
 ·rw[e1,List.filter_append,←h1,List.take_add_one,List.take_set,List.getElem?_set]
  have:i<L.length:=by omega
  simp only[Vq,hn,this,if_true,Bool.not_false,List.filter_cons,List.filter_nil]
  rw[List.set_eq_of_length_le (by rw[List.length_take];omega)];rfl
 ·rw[List.drop_set,if_pos (by omega)];exact e0
theorem LQ:Ci E0.P B9=true:=by kernel_rfl
attribute [local congr] Dy CG CH Bn D0 Bu Bw Bv Bm BU BN BG Bp BO Br CT CU CS CV CW CX Bo CN CM Bq BS Bt BT CK C8 BR CQ CR CL CI CJ Dz BP BQ Bs CO CP
attribute [local irreducible] IntKind.wrap Cf Option.getD and or
theorem Ha (j:Ck):E9 E0 B9 [PY j] (.bool (Y' j)):=by
 refine Ao Hu A3 (by simp) fun hwf=>?_
 rw[Az];unfold FW Y'
 by_cases h:j.blocks=0
 ·rw[decide_eq_true h]
  (try (simp -implicitDefEqProofs only[go_sem,Bx,h]));repeat' first|(with_reducible first|exact tI|refine aI ?_ ?_|intro _)|((first|with_reducible refine Af ?_ ?_<;>intro _)<;>try (simp -implicitDefEqProofs only[go_sem,Bx,h]))|simp (disch:=omega) only[A8]
  all_goals first|omega|rfl|(simp;done)
 ·rw[decide_eq_false h]
  (try (simp -implicitDefEqProofs only[go_sem,Bx,h]));repeat' first|(with_reducible first|exact tI|refine aI ?_ ?_|intro _)|((first|with_reducible refine Af ?_ ?_<;>intro _)<;>try (simp -implicitDefEqProofs only[go_sem,Bx,h]))|simp (disch:=omega) only[A8]
  all_goals first|omega|rfl|(simp;done)|(simp[h];done)
theorem Pm (nl:Bool) (xs:List Ck) (f:FuncId) (cs:List D) (p:Ck->Bool) (hb:Ci E0.P f=true) (hcs:A6 AV.toD1 (cs.map .d)=some cs) (h:∀x,x∈xs->E9 E0 f (PY x::cs) (.bool (p x))) :
  E9 E0 B8 [.list nl (En xs),.fn f cs] (.int .i64 (match xs.findIdx? p with|some i=>i|none=>-1)):=by
 refine Ao EF A3 (by simp) fun hwf=>?_
 simp only[Md,LT,LS,KF,N_,N9,Rr,N8,GN,G5,G6,L7,IJ,List.length_map,HI,true_and,and_true,BJ] at hwf
 rw[Az];unfold Cz
 simp -implicitDefEqProofs only[go_sem,BJ]
 refine BB (α:=Int) (l0:=?l1) (m0:=?m1) (fun x=>[(8,.d (.int .i64 x))]) (fun x=>[]) (fun x=>0<=x/\x<=xs.length/\∀(j:Nat) (hj:j<xs.length),(j:Int)<x->p xs[j]=false) (fun x=>(xs.length-x).toNat) ?a1_0 ?h01 ?he1 ?he21 ?hI1 ?step1
 case h01=>(simp -implicitDefEqProofs only[go_sem,BJ];rfl)
 case he1=>rfl
 case he21=>rfl
 case' step1=>(rintro i hI;try dsimp only at hI)
 case' hI1=>try dsimp only
 ·simp
  omega
 ·(try (simp -implicitDefEqProofs only[go_sem,BJ,CE,CA,Bx]));repeat' first|(with_reducible first|exact tI|refine aI ?_ ?_|intro _)|((first|with_reducible refine Af ?_ ?_<;>intro _)<;>try (simp -implicitDefEqProofs only[go_sem,BJ,CE,CA,Bx]))|simp (disch:=omega) only[A8]|((with_reducible refine BF ?_);refine⟨_,rfl,?_,?_⟩)
  all_goals first|omega|(simp<;>omega)|skip
  ·have hx:xs[i.toNat]?.getD default=xs[i.toNat]'(by omega):=by rw[List.getElem?_eq_getElem (by omega),Option.getD_some]
   rw[hx]
   refine VH (h _ (List.getElem_mem _)) (J5 rfl hcs) (fun hp=>?_) (fun hp=>?_)
   ·simp -implicitDefEqProofs only[go_sem]
    have:xs.findIdx? p=some i.toNat:=by rw[List.findIdx?_eq_some_iff_getElem];exact⟨by omega,hp,fun j hj=>by simp[hI.2.2 j (by omega) (by omega)]⟩
    rw[this];simp;omega
   ·(try (simp -implicitDefEqProofs only[go_sem,BJ]));repeat' first|(with_reducible first|exact tI|refine aI ?_ ?_|intro _)|((first|with_reducible refine Af ?_ ?_<;>intro _)<;>try (simp -implicitDefEqProofs only[go_sem,BJ]))|simp (disch:=omega) only[A8]|((with_reducible refine BF ?_);refine⟨_,rfl,?_,?_⟩)
    all_goals first|omega|(simp<;>omega)|skip
    rename_i j hj hlt
    by_cases hjk:j=i.toNat
    ·subst hjk;exact hp
    ·exact hI.2.2 j hj (by omega)
  ·have:xs.findIdx? p=none:=by
    rw[List.findIdx?_eq_none_iff];intro x hx;obtain⟨j,hj,rfl⟩:=List.getElem_of_mem hx;exact hI.2.2 j hj (by omega)
   rw[this]
theorem Ss (l:List Ck):E9 E0 B8 [.list false (En l),.fn B9 []] (.int .i64 (match l.findIdx? Y' with|some i=>i|none=>-1)) :=
 Pm false l B9 [] Y' LQ rfl fun x _=>Ha x
theorem Sa (l:List Ck) (hl:l.length<=1000) (hn:l.findIdx? Y'=none) :
  D1 E0 B2 [(900000,0,.row 142 3 false (En l))] [.own 900000 0,.d (.fn B9 [])] [(900000,0,.row 142 3 false (En l))] (.own 900000 0):=by
 have c1:=Ss l
 rw[hn] at c1
 refine Av Cs A3 (by simp) (by simp[D4,AK,A2,AE.isHist]) (by simp[Aq]) fun hwf hwo=>?_
 rw[A5];unfold B0
 (try (simp -implicitDefEqProofs only[go_sem]));repeat' first|(with_reducible first|exact tI|refine aI ?_ ?_|intro _)|((first|with_reducible refine Af ?_ ?_<;>intro _|(with_reducible refine isCall ?_);first|refine M3 (c1) rfl (by simp[D.flat,D.flat1,D.prim]) ?_)<;>try (simp -implicitDefEqProofs only[go_sem]))|simp (disch:=omega) only[A8]
 all_goals first|omega|rfl|(simp_all;done)|skip
theorem Yv (l:List Ck) (hl:l.length<=1000) (i0:Nat) (hn:l.findIdx? Y'=some i0) :
  D1 E0 B2 [(800000,0,.row 142 3 false (En l))] [.own 800000 0,.d (.fn B9 [])] [(800000,1,.row 142 3 false (En (l.filter Vq)))] (.own 800000 1):=by
 have c1:=Ss l
 rw[hn] at c1
 rw[List.findIdx?_eq_some_iff_getElem] at hn
 obtain⟨hi0,hp,hbef⟩:=hn
 have hst:l.take i0=(l.take (i0+1)).filter Vq:=by
  rw[List.take_add_one,List.getElem?_eq_getElem hi0,List.filter_append]
  have e1:(l.take i0).filter Vq=l.take i0:=by
   rw[List.filter_eq_self];intro r hr
   obtain⟨j,hj,rfl⟩:=List.getElem_of_mem hr
   rw[List.getElem_take]
   have hj':j<i0:=by rw[List.length_take] at hj;omega
   simp[Vq,hbef j hj']
  rw[e1];simp[Vq,hp]
 refine Av Cs A3 (by simp) (by simp[D4,AK,A2,AE.isHist]) (by simp[Aq,A2]) fun hwf hwo=>?_
 have w0:IntKind.i64.wrap ((i0:Int)+1)=((i0+1:Nat):Int):=by rw[BM _ (by omega)];omega
 have hne:¬(i0:Int)=-1:=by omega
 rw[A5];unfold B0
 (try (simp -implicitDefEqProofs only[go_sem,w0,hne]));repeat' first|(with_reducible first|exact tI|refine aI ?_ ?_|intro _)|((first|with_reducible refine Af ?_ ?_<;>intro _|(with_reducible refine isCall ?_);first|refine M3 (c1) rfl (by simp[D.flat,D.flat1,D.prim]) ?_)<;>try (simp -implicitDefEqProofs only[go_sem,w0,hne]))|simp (disch:=omega) only[A8]|((with_reducible refine B5 ?_);refine⟨(_,_,_),rfl,?_,?_⟩)
 all_goals first|omega|(simp<;>omega)|skip
 refine BB (α:=Nat×Nat×(List Ck)) (l0:=?l2) (m0:=?m2) (fun x=>[(5,.d (.int .i64 (x.1:Int))),(6,.d (.int .i64 (x.2.1:Int)))]) (fun x=>[(800000,.row 142 3 false (En x.2.2))]) (fun x=>(x.1<x.2.1/\x.2.1<=l.length/\x.2.2.length=l.length)/\x.2.2.take x.1=(l.take x.2.1).filter Vq/\x.2.2.drop x.2.1=l.drop x.2.1) (fun x=>l.length-x.2.1) (i0,(i0+1),l) ?h02 ?he2 ?he22 ?hI2 ?step2
 case h02=>(simp -implicitDefEqProofs only[go_sem];rfl)
 case he2=>rfl
 case he22=>rfl
 case' step2=>(rintro⟨i,j,L⟩ hI;try dsimp only at hI)
 case' hI2=>try dsimp only
 ·exact⟨⟨by omega,by omega,rfl⟩,hst,rfl⟩
 ·obtain⟨⟨a1,a2,a3⟩,a4,a5⟩:=hI
  by_cases hj:j<l.length
  ·have hj':(j:Int)<(l.length:Int):=by omega
   have wj:IntKind.i64.wrap ((j:Int)+1)=((j+1:Nat):Int):=by rw[BM _ (by omega)];omega
   have wi:IntKind.i64.wrap ((i:Int)+1)=((i+1:Nat):Int):=by rw[BM _ (by omega)];omega
   obtain⟨d1,d2,d3⟩:=Xp a1 hj a3 a4 a5
   obtain⟨r,hr⟩:∃r,l[j]?.getD default=r:=⟨_,rfl⟩
   rw[hr] at d1 d2 d3
   have c2:=Ha r
   have hes:=QR L i r
   have hiL:(i:Int)<(l.length:Int):=by omega
   have hjL:j<L.length:=by omega
   have hiL2:i<L.length:=by omega
   rw[Bx] at c2
   cases hb:Y' r with
   |true =>
    rw[hb] at c2
    obtain⟨f1,f2⟩:=d1 hb
    (try (simp -implicitDefEqProofs only[go_sem,BJ,CE,CA,d3,Bx,hj',wj,a3,hjL,Int.toNat_natCast]));repeat' first|(with_reducible first|exact tI|refine aI ?_ ?_|intro _)|((first|with_reducible refine Af ?_ ?_<;>intro _|(with_reducible refine isCall ?_);first|refine Ae c2 ?_)<;>try (simp -implicitDefEqProofs only[go_sem,BJ,CE,CA,d3,Bx,hj',wj,a3,hjL,Int.toNat_natCast]))|simp (disch:=omega) only[A8]|((with_reducible refine B5 ?_);refine⟨(_,_,_),rfl,?_,?_⟩)
    all_goals first|omega|(simp<;>omega)|skip
    all_goals first|exact LQ|skip
   |false =>
    rw[hb] at c2
    obtain⟨f1,f2⟩:=d2 hb
    (try (simp -implicitDefEqProofs only[go_sem,BJ,CE,CA,d3,Bx,hj',wj,wi,a3,hjL,hiL,hiL2,hes,Int.toNat_natCast]));repeat' first|(with_reducible first|exact tI|refine aI ?_ ?_|intro _)|((first|with_reducible refine Af ?_ ?_<;>intro _|(with_reducible refine isCall ?_);first|refine Ae c2 ?_)<;>try (simp -implicitDefEqProofs only[go_sem,BJ,CE,CA,d3,Bx,hj',wj,wi,a3,hjL,hiL,hiL2,hes,Int.toNat_natCast]))|simp (disch:=omega) only[A8]|((with_reducible refine B5 ?_);refine⟨(_,_,_),rfl,?_,?_⟩)
    all_goals first|omega|(simp<;>omega)|skip
    all_goals first|exact LQ|skip
  ·have hjl:j=l.length:=by omega
   subst hjl
   have hj':¬(l.length:Int)<(l.length:Int):=by omega
   have hiL:(i:Int)<=(l.length:Int):=by omega
   (try (simp -implicitDefEqProofs only[go_sem,BJ,CE,a3,hj',hiL,Int.toNat_natCast]));repeat' first|(with_reducible first|exact tI|refine aI ?_ ?_|intro _)|((first|with_reducible refine Af ?_ ?_<;>intro _)<;>try (simp -implicitDefEqProofs only[go_sem,BJ,CE,a3,hj',hiL,Int.toNat_natCast]))|simp (disch:=omega) only[A8]|((with_reducible refine B5 ?_);refine⟨(_,_,_),rfl,?_,?_⟩)
   all_goals first|omega|(simp<;>omega)|skip
   ·simp[BJ,a3];omega
   ·rw[List.take_append_of_le_length (by simp[BJ,a3];omega),List.take_take,Nat.min_self,Uf,a4,List.take_length]
end Go.Pw
end
section
open Go Go.Pw Go.Proofs
namespace Go.Pw
set_option maxRecDepth 100000
set_option maxHeartbeats 3200000
theorem Oq {b:GB}{p q:Be->Bool}{e:Be}:∀{es:List Be},Hx es->e∈es->p e=false->q e=true->(∀f,f∈es->f.1≠e.1->q f=p f) ->
  (es.filter q).length=(es.filter p).length+1/\Mr b (es.filter q)=max (Mr b (es.filter p)) (b.tracks-b.track e.2.1)
 |[],_,he,_,_,_=>by cases he
 |f::es,hn,he,hp,hq,h=>by
  have hn0:=hn
  unfold Hx at hn
  rw[List.map_cons,List.nodup_cons] at hn
  rcases List.mem_cons.1 he with rfl|he'
  ·have hrest:es.filter q=es.filter p:=List.filter_congr fun g hg=>h g (List.mem_cons_of_mem _ hg) fun hge=>hn.1 (by rw[←hge];exact List.mem_map_of_mem (f:=fun e:Be=>e.1) hg)
   rw[List.filter_cons,List.filter_cons,hp,hq,hrest]
   refine⟨by simp,?_⟩
   show max (b.tracks-b.track e.2.1) (Mr b (es.filter p))=max (Mr b (es.filter p)) (b.tracks-b.track e.2.1)
   exact Int.max_comm _ _
  ·have hne:f.1≠e.1:=fun hfe=>hn.1 (by rw[hfe];exact List.mem_map_of_mem (f:=fun e:Be=>e.1) he')
   obtain⟨h1,h2⟩:=Oq (b:=b) hn.2 he' hp hq fun g hg=>h g (List.mem_cons_of_mem _ hg)
   rw[List.filter_cons,List.filter_cons,h f List.mem_cons_self hne]
   cases p f with
   |true =>
    refine⟨by simp[h1],?_⟩
    show max (b.tracks-b.track f.2.1) (Mr b (es.filter q))=max (max (b.tracks-b.track f.2.1) (Mr b (es.filter p))) _
    rw[h2];omega
   |false=>exact⟨by simpa using h1,by simpa using h2⟩
theorem Ww {b:GB}{es:List Be}(hn:Hx es) {e:Be}(he:e∈es) {seen:List Nat}(hs:seen.contains e.1=false) {k:Nat}(hk:b.band e.2.1=(k:Int)) (hkb:k<b.bands.toNat) :
  (DJ b es fun f=>seen.contains f.1).set k ⟨(k:Int),max ((DJ b es fun f=>seen.contains f.1)[k]?.getD default).cost (b.tracks-b.track e.2.1),((DJ b es fun f=>seen.contains f.1)[k]?.getD default).blocks+1⟩=DJ b es fun f=>(seen++[e.1]).contains f.1:=by
 have hget:∀(p:Be->Bool) (i:Nat),i<b.bands.toNat->(DJ b es p)[i]?=some (LG b es p i):=fun p i hi=>by
  unfold DJ
  rw[List.getElem?_map,List.getElem?_range hi];rfl
 have hlen:∀(p:Be->Bool),(DJ b es p).length=b.bands.toNat:=fun p=>by simp[DJ]
 have hsn:∀f,(seen++[e.1]).contains f=(seen.contains f || decide (f=e.1)):=fun f=>by
  rw[Bool.eq_iff_iff]
  simp only[List.contains_iff_mem,List.mem_append,List.mem_singleton,Bool.or_eq_true,decide_eq_true_eq]
 refine List.ext_getElem? fun i=>?_
 by_cases hi:i<b.bands.toNat
 ·rw[hget _ i hi]
  by_cases hik:i=k
  ·subst hik
   rw[List.getElem?_set_self (by rw[hlen];exact hi),hget _ i hi,Option.getD_some]
   obtain⟨h1,h2⟩:=Oq (b:=b) (p:=fun f=>seen.contains f.1 && decide (b.band f.2.1=(i:Int))) (q:=fun f=>(seen++[e.1]).contains f.1 && decide (b.band f.2.1=(i:Int))) hn he (by rw[hs];rfl) (by rw[hsn,hk];simp) fun f hf hne=>by rw[hsn,decide_eq_false hne];simp
   unfold LG Sy at *
   obtain⟨F,hF⟩:∃F,(es.filter fun f=>seen.contains f.1 && decide (b.band f.2.1=(i:Int)))=F:=⟨_,rfl⟩
   obtain⟨Gq,hG⟩:∃Gq,(es.filter fun f=>(seen++[e.1]).contains f.1 && decide (b.band f.2.1=(i:Int)))=Gq:=⟨_,rfl⟩
   rw[hF,hG] at h1 h2
   rw[hF,hG]
   have hGe:Gq.isEmpty=false:=by cases Gq with|nil=>simp at h1|cons _ _=>rfl
   rw[hGe,h1,h2]
   cases F with
   |nil=>simp[Mr]
   |cons f F=>simp
  ·rw[List.getElem?_set_ne (fun h=>hik h.symm),hget _ i hi]
   have hfc:(es.filter fun f:Be=>seen.contains f.1 && decide (b.band f.2.1=(i:Int)))=es.filter fun f:Be=>(seen++[e.1]).contains f.1 && decide (b.band f.2.1=(i:Int)):=List.filter_congr fun f hf=>by
    by_cases hfe:f.1=e.1
    ·rw[RL hn he hf hfe,hk,decide_eq_false (show ¬(k:Int)=(i:Int) by omega)];simp
    ·rw[hsn,decide_eq_false hfe];simp
   unfold LG Sy
   dsimp only
   rw[hfc]
 ·rw[List.getElem?_eq_none (by rw[List.length_set,hlen];omega),List.getElem?_eq_none (by rw[hlen];omega)]
def Rp (n:Nat):List Ck:=List.replicate n ⟨0,0,0⟩
theorem Wz (b:GB) (es:List Be):DJ b es (fun f=>([]:List Nat).contains f.1)=Rp b.bands.toNat:=by
 unfold Rp
 refine List.ext_getElem? fun i=>?_
 unfold DJ
 by_cases hi:i<b.bands.toNat
 ·rw[List.getElem?_map,List.getElem?_range hi,List.getElem?_replicate,if_pos hi]
  unfold LG Sy
  simp
 ·rw[List.getElem?_eq_none (by simp;omega),List.getElem?_eq_none (by simp;omega)]
theorem Sv {b:GB}{es:List Be}{p:Be->Bool}(h:∀e,e∈es->p e=true):DJ b es p=DJ b es fun _=>true:=by
 unfold DJ LG Sy
 have:∀k:Nat,(es.filter fun e=>p e && decide (b.band e.2.1=(k:Int)))=es.filter fun e=>true && decide (b.band e.2.1=(k:Int)):=fun k=>List.filter_congr fun e he=>by rw[h e he]
 simp only[this]
theorem Oi (l:List Ck) (i:Nat) (x y z:Int):(En l).set i (.agg [.int .i64 x,.int .i64 y,.int .i64 z])=En (l.set i ⟨x,y,z⟩):=QR l i ⟨x,y,z⟩
theorem Ry {b:GB}(g:b.Good) {x:Int}(h0:0<=x):0<=b.track x/\b.track x<=5:=by
 have g2:=g.t;have g3:=g.k
 unfold GB.track
 have h1:x.tdiv b.blocks=x/b.blocks:=Int.tdiv_eq_ediv_of_nonneg h0
 have h2:0<=x/b.blocks:=Int.ediv_nonneg h0 (by omega)
 rw[h1,Int.tmod_eq_emod_of_nonneg h2]
 have h3:=Int.emod_nonneg (x/b.blocks) (show b.tracks≠0 by omega)
 have h4:=Int.emod_lt_of_pos (x/b.blocks) (show 0<b.tracks by omega)
 omega
theorem Vs (b:GB) (es:List Be) (p:Be->Bool) (k:Nat):0<=(LG b es p k).blocks/\(LG b es p k).blocks<=es.length:=by
 unfold LG
 split
 ·exact⟨Int.le_refl 0,Int.natCast_nonneg _⟩
 ·refine⟨Int.natCast_nonneg _,?_⟩
  have:=List.length_filter_le (fun e:Be=>p e && decide (b.band e.2.1=(k:Int))) es
  show (((Sy b es p k).length:Nat):Int)<=_
  unfold Sy
  omega
theorem QS (n:Nat):List.replicate n (D.agg [.int .i64 0,.int .i64 0,.int .i64 0])=En (Rp n):=by simp[Rp,En,PY]
attribute [local congr] Dy CG CH Bn D0 Bu Bw Bv Bm BU BN BG Bp BO Br CT CU CS CV CW CX Bo CN CM Bq BS Bt BT CK C8 BR CQ CR CL CI CJ Dz BP BQ Bs CO CP
attribute [local irreducible] IntKind.wrap Cf Option.getD and or
theorem Jc (b:GB) (g:b.Good) (d:D5) (hd:Co d.es) (hn:Hx d.es) (hr:X4 b d.es) (hl:d.es.length<=100) :
  D1 E0 GZ (Mv b d) [.ptr 900000 0 0] (Mv b d) (.d (.list false (En (Fa b d.es)))):=by
 have hmany:=KQ g
 have g1:=g.n
 have hst:=Wz b d.es
 rw[Cq,B']
 refine Av Ix A3 (by simp) (by simp[D4,AK,A2,AE.isHist]) (by simp[Aq,A2]) fun hwf hwo=>?_
 rw[A5];unfold F7
 (try (simp -implicitDefEqProofs only[go_sem,QS]));repeat' first|(with_reducible first|exact tI|refine aI ?_ ?_|intro _)|((first|with_reducible refine Af ?_ ?_<;>intro _)<;>try (simp -implicitDefEqProofs only[go_sem,QS]))|simp (disch:=omega) only[A8]|((with_reducible refine Eo ?_);refine⟨(_,_),rfl,?_,?_⟩)
 all_goals first|omega|(simp<;>omega)|skip
 refine BB (α:=(List Nat)×(List Ck)) (l0:=?l1) (m0:=?m1) (fun x=>[]) (fun x=>[(17,.mitO 903000 0 d.cl x.1),(12,.row 142 3 false (En x.2))]) (fun x=>x.2=DJ b d.es (fun f=>x.1.contains f.1)) (fun x=>Ns d.es x.1) ([],(Rp b.bands.toNat)) ?h01 ?he1 ?he21 ?hI1 ?step1
 case h01=>(simp -implicitDefEqProofs only[go_sem];rfl)
 case he1=>rfl
 case he21=>rfl
 case' step1=>(rintro⟨seen,A⟩ hI;try dsimp only at hI)
 case' hI1=>try dsimp only
 ·exact hst.symm
 ·change A=DJ b d.es (fun f=>seen.contains f.1) at hI
  have hAl:A.length=b.bands.toNat:=by rw[hI];simp[DJ]
  (try (simp -implicitDefEqProofs only[go_sem]));repeat' first|(with_reducible first|exact tI|refine aI ?_ ?_|intro _)|((first|with_reducible refine Af ?_ ?_<;>intro _)<;>try (simp -implicitDefEqProofs only[go_sem]))|simp (disch:=omega) only[A8]|((with_reducible refine Eo ?_);refine⟨(_,_),rfl,?_,?_⟩)
  refine Y6 (fun e he hs=>?_) (fun hall=>?_)
  ·obtain⟨f,hf,rfl⟩:=List.mem_map.1 he
   change seen.contains f.1=false at hs
   obtain⟨f0,f1⟩:=hr f hf
   have hfind:=IP hn hf
   have hlast:(seen++[f.1]).getLast?=some f.1:=by simp
   have hmu:=OA hf hs
   have cS:=Jb b g d f.2.1 ⟨f0,by omega⟩
   rw[Cq,B'] at cS
   obtain⟨b0,b1⟩:=Rj g f0 f1
   obtain⟨k,hk⟩:∃k:Nat,b.band f.2.1=(k:Int):=⟨(b.band f.2.1).toNat,by omega⟩
   have hkb:k<b.bands.toNat:=by omega
   have hst2:=Ww hn hf hs hk hkb
   rw[←hI] at hst2
   rw[hk] at cS
   obtain⟨t,ht⟩:∃t,b.track f.2.1=t:=⟨_,rfl⟩
   rw[ht] at cS hst2
   obtain⟨a,ha⟩:∃a,A[k]?.getD default=a:=⟨_,rfl⟩
   rw[ha] at hst2
   have hkA:k<A.length:=by omega
   have hab:0<=a.blocks/\a.blocks<=100:=by
    have h1:=Vs b d.es (fun f=>seen.contains f.1) k
    have h2:a=LG b d.es (fun f=>seen.contains f.1) k:=by
     rw[←ha,hI];unfold DJ
     rw[List.getElem?_map,List.getElem?_range hkb,Option.map_some,Option.getD_some]
    rw[h2];omega
   obtain⟨t0,t1⟩:=Ry g f0
   rw[ht] at t0 t1
   have gt:=g.t
   have w1:IntKind.i64.wrap (a.blocks+1)=a.blocks+1:=BM _ (by omega)
   have w2:IntKind.i64.wrap (b.tracks-t)=b.tracks-t:=BM _ (by omega)
   have hsk:∀(v:Ck),(A.set k v)[k]?.getD default=v:=fun v=>by rw[List.getElem?_set_self hkA,Option.getD_some]
   have hss:∀(u v:Ck),(A.set k u).set k v=A.set k v:=fun u v=>List.set_set ..
   have hls:∀(v:Ck),(A.set k v).length=A.length:=fun v=>List.length_set ..
   have hkA':(k:Int)<(A.length:Int):=by omega
   (try (simp -implicitDefEqProofs only[go_sem,hfind,hlast,BJ,CE,CA,Bx,ha,hkA,hkA',Int.toNat_natCast,Oi,w1,w2,hsk,hss,hls]));repeat' first|(with_reducible first|exact tI|refine aI ?_ ?_|intro _)|((first|with_reducible refine Af ?_ ?_<;>intro _|(with_reducible refine isCall ?_);first|(refine Ad ([((900000,0),(900000,0)),((901000,0),(901000,0)),((902000,0),(902000,0)),((903000,0),(903000,0))]) ([((900000,0),(900000,0)),((901000,0),(901000,0)),((902000,0),(902000,0)),((903000,0),(903000,0))]) (cS) (by repeat' first|exact True.intro|exact rfl|refine And.intro ?_ ?_) (by simp[AW,Ah.get,AE.ren,AV.ren,AV.ren.renL,AB.get,AX,Ag,AY,AB.reach,AV.sites,AV.sites.sitesL,AB.osites]) (by simp[AL,Aq,AK,Ah.get,AY,A2,A9,AZ,AM]) (by rfl) (by simp only[Ai,Ah.get,AE.ren,AV.ren,AV.ren.renL,and_self,and_true,true_and,if_true,reduceIte];rfl) ?_))<;>try (simp -implicitDefEqProofs only[go_sem,hfind,hlast,BJ,CE,CA,Bx,ha,hkA,hkA',Int.toNat_natCast,Oi,w1,w2,hsk,hss,hls]))|simp (disch:=omega) only[A8]|((with_reducible refine Eo ?_);refine⟨(_,_),rfl,?_,?_⟩)
   all_goals first|omega|exact .inl True.intro|exact .inr True.intro|trace_state
  ·have hA:A=DJ b d.es fun _=>true:=by
    rw[hI];exact Sv fun e he=>hall _ (List.mem_map_of_mem he)
   have hL:Fa b d.es=A.filter Vq:=by rw[hA];rfl
   rw[hL]
   have hAl2:A.length<=1000:=by omega
   cases hf:A.findIdx? Y' with
   |none =>
    have cD:=Sa A hAl2 hf
    have hke:A.filter Vq=A:=by
     rw[List.filter_eq_self]
     rw[List.findIdx?_eq_none_iff] at hf
     intro j hj
     unfold Vq
     rw[hf j hj];rfl
    rw[hke]
    (try (simp -implicitDefEqProofs only[go_sem]));repeat' first|(with_reducible first|exact tI|refine aI ?_ ?_|intro _)|((first|with_reducible refine Af ?_ ?_<;>intro _|(with_reducible refine isCall ?_);first|(refine Ad ([((900000,0),(12,0))]) ([((900000,0),(12,0))]) (cD) (by repeat' first|exact True.intro|exact rfl|refine And.intro ?_ ?_) (by simp[AW,Ah.get,AE.ren,AV.ren,AV.ren.renL,AB.get,AX,Ag,AY,AB.reach,AV.sites,AV.sites.sitesL,AB.osites]) (by simp[AL,Aq,AK,Ah.get,AY,A2,A9,AZ,AM]) (by rfl) (by simp only[Ai,Ah.get,AE.ren,AV.ren,AV.ren.renL,and_self,and_true,true_and,if_true,reduceIte];rfl) ?_))<;>try (simp -implicitDefEqProofs only[go_sem]))|simp (disch:=omega) only[A8]|((with_reducible refine Eo ?_);refine⟨(_,_),rfl,?_,?_⟩)
    all_goals first|omega|rfl|exact .inl True.intro|exact .inr True.intro|trace_state
   |some i0 =>
    have cD:=Yv A hAl2 i0 hf
    (try (simp -implicitDefEqProofs only[go_sem]));repeat' first|(with_reducible first|exact tI|refine aI ?_ ?_|intro _)|((first|with_reducible refine Af ?_ ?_<;>intro _|(with_reducible refine isCall ?_);first|(refine Ad ([((800000,0),(12,0))]) ([((800000,1),(12,1))]) (cD) (by repeat' first|exact True.intro|exact rfl|refine And.intro ?_ ?_) (by simp[AW,Ah.get,AE.ren,AV.ren,AV.ren.renL,AB.get,AX,Ag,AY,AB.reach,AV.sites,AV.sites.sitesL,AB.osites]) (by simp[AL,Aq,AK,Ah.get,AY,A2,A9,AZ,AM]) (by rfl) (by simp only[Ai,Ah.get,AE.ren,AV.ren,AV.ren.renL,and_self,and_true,true_and,if_true,reduceIte];rfl) ?_))<;>try (simp -implicitDefEqProofs only[go_sem]))|simp (disch:=omega) only[A8]|((with_reducible refine Eo ?_);refine⟨(_,_),rfl,?_,?_⟩)
    all_goals first|omega|rfl|exact .inl True.intro|exact .inr True.intro|trace_state
end Go.Pw
end
section
open Go Go.Pw Go.Proofs
namespace Go.Pw
set_option maxRecDepth 100000
set_option maxHeartbeats 3200000
def JB (j:Ck):Prop:=(0<=j.band/\j.band<=10)/\(0<=j.cost/\j.cost<=10)/\(0<=j.blocks/\j.blocks<=100)
theorem QM (x:Ck):∀(l:List Ck) (m:Ck),II m (l++[x])=if VE x (II m l)<0 then x else II m l
 |[],m=>rfl
 |y::l,m=>QM x l _
theorem NQ:Ci E0.P DV=true:=by kernel_rfl
theorem VT (x y:Int):([x,y]:List Int)[0]?.getD 0=x/\([x,y]:List Int)[1]?.getD 0=y:=⟨rfl,rfl⟩
theorem ZR (x y:Int):[D.int .i64 x,D.int .i64 y]=Bi [x,y]:=rfl
attribute [local congr] Dy CG CH Bn D0 Bu Bw Bv Bm BU BN BG Bp BO Br CT CU CS CV CW CX Bo CN CM Bq BS Bt BT CK C8 BR CQ CR CL CI CJ Dz BP BQ Bs CO CP
attribute [local irreducible] IntKind.wrap Cf Option.getD and or
theorem VD (u v:Int):E9 E0 Ma [.list false [.int .i64 u,.int .i64 v]] (.int .i64 (if u≠0 then u else v)):=by
 have h0:=(VT u v).1
 have h1:=(VT u v).2
 rw[ZR]
 obtain⟨l,hl⟩:∃l,([u,v]:List Int)=l:=⟨_,rfl⟩
 have hll:l.length=2:=by rw[←hl];rfl
 rw[hl] at h0 h1 ⊢
 refine Ao O4 A3 (by simp) fun hwf=>?_
 rw[Az];unfold Kq
 (try (simp -implicitDefEqProofs only[go_sem]));repeat' first|(with_reducible first|exact tI|refine aI ?_ ?_|intro _)|((first|with_reducible refine Af ?_ ?_<;>intro _)<;>try (simp -implicitDefEqProofs only[go_sem]))|simp (disch:=omega) only[A8]|((with_reducible refine BF ?_);refine⟨_,rfl,?_,?_⟩)
 all_goals first|omega|(simp<;>omega)|skip
 refine BB (α:=Nat) (l0:=?l1) (m0:=?m1) (fun x=>[(8,.d (.int .i64 (x:Int)))]) (fun x=>[]) (fun x=>x<=2/\(1<=x->u=0)/\(2<=x->v=0)) (fun x=>2-x) 0 ?h01 ?he1 ?he21 ?hI1 ?step1
 case h01=>(simp -implicitDefEqProofs only[go_sem];rfl)
 case he1=>rfl
 case he21=>rfl
 case' step1=>(rintro i hI;try dsimp only at hI)
 case' hI1=>try dsimp only
 ·exact⟨by omega,fun h=>absurd h (by omega),fun h=>absurd h (by omega)⟩
 ·obtain⟨i1,i2,i3⟩:=hI
  rcases (show i=0\/i=1\/i=2 by omega) with rfl|rfl|rfl
  ·by_cases hx:u=0
   ·(try (simp -implicitDefEqProofs only[go_sem,hll,h0,hx]));repeat' first|(with_reducible first|exact tI|refine aI ?_ ?_|intro _)|((first|with_reducible refine Af ?_ ?_<;>intro _)<;>try (simp -implicitDefEqProofs only[go_sem,hll,h0,hx]))|simp (disch:=omega) only[A8]|((with_reducible refine BF ?_);refine⟨_,rfl,?_,?_⟩)
    all_goals first|omega|rfl|(rename_i h;exact absurd h (by decide))|trace_state
   ·rw[if_pos hx]
    (try (simp -implicitDefEqProofs only[go_sem,hll,h0,hx]));repeat' first|(with_reducible first|exact tI|refine aI ?_ ?_|intro _)|((first|with_reducible refine Af ?_ ?_<;>intro _)<;>try (simp -implicitDefEqProofs only[go_sem,hll,h0,hx]))|simp (disch:=omega) only[A8]|((with_reducible refine BF ?_);refine⟨_,rfl,?_,?_⟩)
    all_goals first|omega|rfl|trace_state
  ·have hx:=i2 (by omega)
   rw[if_neg (by simp[hx])]
   by_cases hy:v=0
   ·(try (simp -implicitDefEqProofs only[go_sem,hll,h1,hy]));repeat' first|(with_reducible first|exact tI|refine aI ?_ ?_|intro _)|((first|with_reducible refine Af ?_ ?_<;>intro _)<;>try (simp -implicitDefEqProofs only[go_sem,hll,h1,hy]))|simp (disch:=omega) only[A8]|((with_reducible refine BF ?_);refine⟨_,rfl,?_,?_⟩)
    all_goals first|omega|rfl|trace_state
   ·(try (simp -implicitDefEqProofs only[go_sem,hll,h1,hy]));repeat' first|(with_reducible first|exact tI|refine aI ?_ ?_|intro _)|((first|with_reducible refine Af ?_ ?_<;>intro _)<;>try (simp -implicitDefEqProofs only[go_sem,hll,h1,hy]))|simp (disch:=omega) only[A8]|((with_reducible refine BF ?_);refine⟨_,rfl,?_,?_⟩)
    all_goals first|omega|rfl|trace_state
  ·have hx:=i2 (by omega)
   have hy:=i3 (by omega)
   rw[if_neg (by simp[hx]),hy]
   (try (simp -implicitDefEqProofs only[go_sem,hll]));repeat' first|(with_reducible first|exact tI|refine aI ?_ ?_|intro _)|((first|with_reducible refine Af ?_ ?_<;>intro _)<;>try (simp -implicitDefEqProofs only[go_sem,hll]))|simp (disch:=omega) only[A8]|((with_reducible refine BF ?_);refine⟨_,rfl,?_,?_⟩)
   all_goals first|omega|rfl|trace_state
theorem K_ (a c:Ck) (ha:JB a) (hc:JB c):E9 E0 DV [PY a,PY c] (.int .i64 (VE a c)):=by
 obtain⟨a1,a2,a3⟩:=ha
 obtain⟨c1,c2,c3⟩:=hc
 have m1:0<=a.cost*c.blocks:=Int.mul_nonneg a2.1 c3.1
 have m2:a.cost*c.blocks<=10*100:=Int.mul_le_mul a2.2 c3.2 c3.1 (by omega)
 have m3:0<=c.cost*a.blocks:=Int.mul_nonneg c2.1 a3.1
 have m4:c.cost*a.blocks<=10*100:=Int.mul_le_mul c2.2 a3.2 a3.1 (by omega)
 have cO:=VD (a.cost*c.blocks-c.cost*a.blocks) (a.band-c.band)
 unfold VE
 obtain⟨p,hp⟩:∃p,a.cost*c.blocks=p:=⟨_,rfl⟩
 obtain⟨q,hq⟩:∃q,c.cost*a.blocks=q:=⟨_,rfl⟩
 rw[hp,hq] at cO ⊢
 rw[hp] at m1 m2
 rw[hq] at m3 m4
 have w1:IntKind.i64.wrap p=p:=BM _ (by omega)
 have w2:IntKind.i64.wrap q=q:=BM _ (by omega)
 have w3:IntKind.i64.wrap (p-q)=p-q:=BM _ (by omega)
 have w4:IntKind.i64.wrap (a.band-c.band)=a.band-c.band:=BM _ (by omega)
 obtain⟨r,hr⟩:∃r,(if p-q≠0 then p-q else a.band-c.band)=r:=⟨_,rfl⟩
 rw[hr] at cO ⊢
 refine Ao HV A3 (by simp) fun hwf=>?_
 rw[Az];unfold FD
 (try (simp -implicitDefEqProofs only[go_sem,Bx,hp,hq,w1,w2,w3,w4]));repeat' first|(with_reducible first|exact tI|refine aI ?_ ?_|intro _)|((first|with_reducible refine Af ?_ ?_<;>intro _|(with_reducible refine isCall ?_);first|refine Ae cO ?_)<;>try (simp -implicitDefEqProofs only[go_sem,Bx,hp,hq,w1,w2,w3,w4]))|simp (disch:=omega) only[A8]
 all_goals first|omega|rfl|trace_state
theorem Vm:∀(l:List Ck) (m:Ck),JB m->(∀j,j∈l->JB j)->JB (II m l)
 |[],m,h,_=>h
 |x::l,m,h,hl=>by
  rw[II]
  refine Vm l _ ?_ fun j hj=>hl j (List.mem_cons_of_mem _ hj)
  split
  ·exact hl x List.mem_cons_self
  ·exact h
theorem aW (nb:Bool) (m:Ck) (l:List Ck) (hm:JB m) (hl:∀j,j∈l->JB j) (h100:l.length<=100):E9 E0 DG [.list nb (En (m::l)),.fn DV []] (PY (II m l)):=by
 refine Ao ET A3 (by simp) fun hwf=>?_
 obtain⟨L,hL⟩:∃L,m::l=L:=⟨_,rfl⟩
 have hLl:L.length=l.length+1:=by rw[←hL];rfl
 have hL0:L[0]?.getD default=m:=by rw[←hL,List.getElem?_cons_zero,Option.getD_some]
 have hLi:∀i,L[i+1]?.getD default=l[i]?.getD default:=fun i=>by rw[←hL,List.getElem?_cons_succ]
 rw[hL]
 rw[Az];unfold DA
 have h1:¬(L.length:Int)<1:=by omega
 have h2:0<L.length:=by omega
 have h3:(0:Int)<(L.length:Int):=by omega
 (try (simp -implicitDefEqProofs only[go_sem,BJ,CE,CA,Bx,h1,h2,h3,hL0]));repeat' first|(with_reducible first|exact tI|refine aI ?_ ?_|intro _)|((first|with_reducible refine Af ?_ ?_<;>intro _)<;>try (simp -implicitDefEqProofs only[go_sem,BJ,CE,CA,Bx,h1,h2,h3,hL0]))|simp (disch:=omega) only[A8]|((with_reducible refine Eo ?_);refine⟨(_,_),rfl,?_,?_⟩)
 all_goals first|omega|(simp<;>omega)|skip
 refine BB (α:=Nat×Ck) (l0:=?l2) (m0:=?m2) (fun x=>[(6,.d (.int .i64 ((x.1:Int)+1)))]) (fun x=>[(5,.cells [.d (.int .i64 x.2.band),.d (.int .i64 x.2.cost),.d (.int .i64 x.2.blocks)])]) (fun x=>x.1<=l.length/\x.2=II m (l.take x.1)) (fun x=>l.length-x.1) (0,m) ?h02 ?he2 ?he22 ?hI2 ?step2
 case h02=>(simp -implicitDefEqProofs only[go_sem];rfl)
 case he2=>rfl
 case he22=>rfl
 case' step2=>(rintro⟨i,c⟩ hI;try dsimp only at hI)
 case' hI2=>try dsimp only
 ·exact⟨Nat.zero_le _,rfl⟩
 ·obtain⟨i1,i2⟩:=hI
  change c=II m (l.take i) at i2
  have hcb:JB c:=by rw[i2];exact Vm _ _ hm fun j hj=>hl j (List.mem_of_mem_take hj)
  by_cases hi:i<l.length
  ·have hi':(i:Int)+1<(L.length:Int):=by omega
   have hi2:i+1<L.length:=by omega
   have ht:((i:Int)+1).toNat=i+1:=by omega
   have wi:IntKind.i64.wrap ((i:Int)+1+1)=((i+1:Nat):Int)+1:=by rw[BM _ (by omega)];omega
   obtain⟨x,hx⟩:∃x,l[i]?.getD default=x:=⟨_,rfl⟩
   have hxL:=hLi i
   rw[hx] at hxL
   have hxb:JB x:=by
    rw[←hx,List.getElem?_eq_getElem hi,Option.getD_some];exact hl _ (List.getElem_mem hi)
   have hst:II m (l.take (i+1))=if VE x c<0 then x else c:=by
    rw[i2,←QM,List.take_add_one,List.getElem?_eq_getElem hi]
    rw[List.getElem?_eq_getElem hi,Option.getD_some] at hx
    rw[hx];rfl
   have cW:=K_ x c hxb hcb
   rw[Bx,Bx] at cW
   obtain⟨r,hr⟩:∃r,VE x c=r:=⟨_,rfl⟩
   rw[hr] at cW hst
   by_cases h0:r<0
   ·rw[if_pos h0] at hst
    (try (simp -implicitDefEqProofs only[go_sem,BJ,CE,CA,Bx,hi',hi2,ht,hxL,wi,h0]));repeat' first|(with_reducible first|exact tI|refine aI ?_ ?_|intro _)|((first|with_reducible refine Af ?_ ?_<;>intro _|(with_reducible refine isCall ?_);first|refine Ae cW ?_)<;>try (simp -implicitDefEqProofs only[go_sem,BJ,CE,CA,Bx,hi',hi2,ht,hxL,wi,h0]))|simp (disch:=omega) only[A8]|((with_reducible refine Eo ?_);refine⟨(_,_),rfl,?_,?_⟩)
    all_goals first|omega|exact NQ|exact hst.symm|exact⟨_,rfl,⟨by omega,hst.symm⟩,by omega⟩|trace_state
   ·rw[if_neg h0] at hst
    (try (simp -implicitDefEqProofs only[go_sem,BJ,CE,CA,Bx,hi',hi2,ht,hxL,wi,h0]));repeat' first|(with_reducible first|exact tI|refine aI ?_ ?_|intro _)|((first|with_reducible refine Af ?_ ?_<;>intro _|(with_reducible refine isCall ?_);first|refine Ae cW ?_)<;>try (simp -implicitDefEqProofs only[go_sem,BJ,CE,CA,Bx,hi',hi2,ht,hxL,wi,h0]))|simp (disch:=omega) only[A8]|((with_reducible refine Eo ?_);refine⟨(_,_),rfl,?_,?_⟩)
    all_goals first|omega|exact NQ|exact hst.symm|exact⟨_,rfl,⟨by omega,hst.symm⟩,by omega⟩|trace_state
  ·have hi':¬(i:Int)+1<(L.length:Int):=by omega
   have hie:i=l.length:=by omega
   rw[hie,List.take_length] at i2
   rw[←i2]
   (try (simp -implicitDefEqProofs only[go_sem,BJ,Bx,hi']));repeat' first|(with_reducible first|exact tI|refine aI ?_ ?_|intro _)|((first|with_reducible refine Af ?_ ?_<;>intro _)<;>try (simp -implicitDefEqProofs only[go_sem,BJ,Bx,hi']))|simp (disch:=omega) only[A8]|((with_reducible refine Eo ?_);refine⟨(_,_),rfl,?_,?_⟩)
   all_goals first|omega|rfl|trace_state
end Go.Pw
end
section
open Go Go.Pw Go.Proofs
namespace Go.Pw
set_option maxRecDepth 100000
set_option maxHeartbeats 3200000
theorem SM {x v:Int}:∀{es:List Be},Co es->∀{i:Nat},(es.findIdx? fun e=>decide (e.2.1=x))=some i->∃e,es[i]?=some e/\es.set i (e.1,x,v)=es.map fun e=>if e.2.1=x then (e.1,x,v) else e
 |[],_,i,h=>by simp at h
 |e::es,hd,i,h=>by
  unfold Co at hd
  rw[List.map_cons,List.nodup_cons] at hd
  rw[List.findIdx?_cons] at h
  by_cases hx:e.2.1=x
  ·rw[decide_eq_true hx,if_pos rfl] at h
   obtain rfl:=Option.some.inj h
   refine⟨e,rfl,?_⟩
   rw[List.set_cons_zero,List.map_cons,if_pos hx]
   congr 1
   symm
   have:(es.map fun e=>if e.2.1=x then (e.1,x,v) else e)=es.map id:=List.map_congr_left fun f hf=>by
    rw[if_neg fun hfx=>hd.1 (by rw[hx,←hfx];exact List.mem_map_of_mem (f:=fun e:Be=>e.2.1) hf)];rfl
   rw[this,List.map_id]
  ·rw[decide_eq_false hx,if_neg (by simp)] at h
   cases hf:es.findIdx? fun e=>decide (e.2.1=x) with
   |none=>rw[hf] at h;cases h
   |some k =>
    rw[hf] at h
    obtain rfl:=Option.some.inj h
    obtain⟨e',h1,h2⟩:=SM (v:=v) hd.2 hf
    refine⟨e',h1,?_⟩
    rw[List.map_cons,if_neg hx,←h2];rfl
theorem Og {es:List Be}{x:Int}(h:D7 es x=none):HG (.int .i64 x) (TT es)=none:=by rw[dS,h];rfl
theorem Oe {es:List Be}{x v:Int}(h:D7 es x=some v):HG (.int .i64 x) (TT es)=some (.int .i64 v):=by rw[dS,h];rfl
theorem W7 {es:List Be}{x:Int}(h:D7 es x=none):(es.findIdx? fun e=>decide (e.2.1=x))=none:=by
 rw[List.findIdx?_eq_none_iff]
 intro e he
 rw[decide_eq_false_iff_not]
 exact G2.1 h e he
theorem YB {d:D5}(hd:Co d.es) (x v:Int):YE (.int .i64 x) (.int .i64 v) (F3 d.es) d.cl=F3 (H6 x v d).es/\YF (.int .i64 x) (F3 d.es) d.cl=(H6 x v d).cl:=by
 unfold YE YF H6
 rw[KX,f_]
 cases h:D7 d.es x with
 |none =>
  rw[W7 h,Option.isSome_none,if_neg (by simp)]
  exact⟨by simp[F3],rfl⟩
 |some w =>
  rw[Option.isSome_some,if_pos rfl]
  cases hf:d.es.findIdx? fun e=>decide (e.2.1=x) with
  |none =>
   obtain⟨e,he,hx,_⟩:=N' h
   have:=List.findIdx?_eq_none_iff.1 hf e he
   rw[decide_eq_true hx] at this;cases this
  |some i =>
   obtain⟨e,h1,h2⟩:=SM (v:=v) hd hf
   have h3:(F3 d.es)[i]?=some (e.1,.int .i64 e.2.1,.int .i64 e.2.2):=by unfold F3;rw[List.getElem?_map,h1];rfl
   dsimp only
   rw[h3]
   refine⟨?_,rfl⟩
   show (F3 d.es).set i (e.1,.int .i64 x,.int .i64 v)=F3 (d.es.map fun e=>if e.2.1=x then (e.1,x,v) else e)
   rw[←h2]
   simp[F3,List.map_set]
end Go.Pw
end
section
open Go Go.Pw Go.Proofs
namespace Go.Pw
set_option maxRecDepth 100000
set_option maxHeartbeats 3200000
structure JU (b:GB) (d:D5) (N:Int):Prop where
 ok:Tg b d N
 dd:Co d.es
 nn:Hx d.es
 lt:∀e,e∈d.es->e.1<d.cl
 rr:X4 b d.es
 mm:d.med.length=b.many.toNat
 cc:(d.es.length:Int)<=b.cache
theorem Vn {b:GB}(g:b.Good):∀(es:List Be),(∀e,e∈es->0<=e.2.1)->0<=Mr b es/\Mr b es<=6
 |[],_=>⟨Int.le_refl 0,by show (0:Int)<=6;decide⟩
 |e::es,h=>by
  have h1:=Vn g es fun f hf=>h f (List.mem_cons_of_mem _ hf)
  have h2:=Ry g (h e List.mem_cons_self)
  have g2:=g.t
  show 0<=max (b.tracks-b.track e.2.1) (Mr b es)/\max (b.tracks-b.track e.2.1) (Mr b es)<=6
  omega
theorem Oh {b:GB}(g:b.Good) {es:List Be}(hr:X4 b es) (hl:es.length<=100) {j:Ck}(h:j∈Fa b es):JB j/\(0<=j.band/\j.band<b.bands):=by
 have g1:=g.n
 obtain⟨h1,_⟩:=List.mem_filter.1 h
 obtain⟨k,hk,rfl⟩:=List.mem_map.1 h1
 rw[List.mem_range] at hk
 have hb:=Vs b es (fun _=>true) k
 have hm:=Vn g (Sy b es (fun _=>true) k) fun e he=>(hr e (List.mem_filter.1 he).1).1
 unfold JB
 unfold LG at hb ⊢
 split
 ·exact⟨⟨⟨by decide,by decide⟩,⟨by decide,by decide⟩,by decide,by decide⟩,by show (0:Int)<=0;decide,by show (0:Int)<b.bands;omega⟩
 ·rename_i hne
  rw[if_neg hne] at hb
  dsimp only at hb ⊢
  exact⟨⟨⟨by omega,by omega⟩,⟨hm.1,by omega⟩,hb.1,by omega⟩,by omega,by omega⟩
theorem Su {b:GB}(g:b.Good) {es:List Be}(hr:X4 b es) (hne:es≠[]):Fa b es≠[]:=by
 obtain⟨e,he⟩:=List.exists_mem_of_ne_nil _ hne
 obtain⟨h1,h2⟩:=hr e he
 obtain⟨h3,h4⟩:=Rj g h1 h2
 obtain⟨j,hj,_⟩:=NK (b:=b) he (k:=(b.band e.2.1).toNat) (by omega) (by omega)
 exact List.ne_nil_of_mem hj
theorem QC (x v:Int) (d:D5):(H6 x v d).med=d.med/\(H6 x v d).cnt=d.cnt/\(H6 x v d).cost=d.cost/\(H6 x v d).cleaned=d.cleaned/\(H6 x v d).refr=d.refr:=by
 unfold H6;split<;>exact⟨rfl,rfl,rfl,rfl,rfl⟩
theorem Ox {b:GB}{d:D5}(hd:Co d.es) (x v:Int):Mv b (H6 x v d)=[(900000,0,.cells (Z5 b d)),(901000,0,.row 3 1 false (Bi d.med)),(902000,0,.row 3 1 false (Bi d.cnt)),(903000,0,.mapB PM (YE (.int .i64 x) (.int .i64 v) (F3 d.es) d.cl) (YF (.int .i64 x) (F3 d.es) d.cl))]:=by
 obtain⟨h1,h2,h3,h4,h5⟩:=QC x v d
 obtain⟨h6,h7⟩:=YB hd x v
 rw[Cq,B',h6,h7,h1,h2,h3,h4,h5,B']
attribute [local congr] Dy CG CH Bn D0 Bu Bw Bv Bm BU BN BG Bp BO Br CT CU CS CV CW CX Bo CN CM Bq BS Bt BT CK C8 BR CQ CR CL CI CJ Dz BP BQ Bs CO CP
attribute [local irreducible] IntKind.wrap Cf Option.getD and or
theorem NY (b:GB) (g:b.Good) (d:D5) (N:Int) (hN:0<=N/\N<=80000) (h:JU b d N) (x v:Int) (hx:0<=x/\x<b.many) :
  D1 E0 F_ (Mv b d) [.ptr 900000 0 0,.d (.agg [.int .i64 x,.int .i64 v])] (Mv b (Ef b x v d)) (.tup []):=by
 have g1:=g.c
 have hcl:=h.cc
 have hty:=Tt x
 unfold Ef Gm S3
 refine Av IU A3 (by simp) (by rw[Cq];simp[D4,AK,A2,AE.isHist]) (by rw[Cq,Cq];simp[Aq,A2]) fun hwf hwo=>?_
 rw[A5];unfold Fl
 cases hv:D7 d.es x with
 |some w =>
  have hl:=Oe hv
  rw[←KX] at hl
  rw[Option.isSome_some,Bool.not_true,Bool.false_and,if_neg (by simp),Ox h.dd,Cq,B']
  (try (simp -implicitDefEqProofs only[go_sem,hl,hty]));repeat' first|(with_reducible first|exact tI|refine aI ?_ ?_|intro _)|((first|with_reducible refine Af ?_ ?_<;>intro _)<;>try (simp -implicitDefEqProofs only[go_sem,hl,hty]))|simp (disch:=omega) only[A8]
  all_goals first|omega|rfl|exact .inl True.intro|exact .inr True.intro|trace_state
 |none =>
  have hl:=Og hv
  rw[←KX] at hl
  by_cases hc:(d.es.length:Int)=b.cache
  ·rw[decide_eq_true hc,Option.isSome_none,Bool.not_false,Bool.true_and,if_pos rfl]
   have hne:d.es≠[]:=fun he=>by rw[he] at hc;simp at hc;omega
   have hl100:d.es.length<=100:=by omega
   have cJ:=Jc b g d h.dd h.nn h.rr hl100
   have hJB:=fun j hj=>@Oh b g d.es h.rr hl100 j hj
   cases hj:Fa b d.es with
   |nil=>exact absurd hj (Su g h.rr hne)
   |cons m l =>
    rw[hj] at cJ hJB
    dsimp only
    have hmem:II m l∈m::l:=by
     rcases Sl l m with h1|h1
     ·rw[h1];exact List.mem_cons_self
     ·exact List.mem_cons_of_mem _ h1
    have cM:=aW false m l (hJB m List.mem_cons_self).1 (fun j hj=>(hJB j (List.mem_cons_of_mem _ hj)).1) (by
     have h1:(Fa b d.es).length<=b.bands.toNat:=by
      unfold Fa DJ
      exact Nat.le_trans (List.length_filter_le _ _) (by simp)
     have g2:=g.n
     rw[hj] at h1
     simp at h1;omega)
    have hmj:=hJB _ hmem
    have cC:=I6 b g (II m l) d N (by omega) h.ok h.dd h.nn h.rr h.mm hmj.2 (by have:=hmj.1;unfold JB at this;omega)
    have hdc:Co (Ei b (II m l) d).es:=by rw[EX];exact E6 h.dd _
    rw[Ox hdc]
    obtain⟨J,hJ⟩:∃J,II m l=J:=⟨_,rfl⟩
    rw[hJ] at cM cC ⊢
    obtain⟨R,hR⟩:∃R,Ei b J d=R:=⟨_,rfl⟩
    rw[hR] at cC ⊢
    rw[Cq,B'] at cJ
    rw[Cq,B',Cq,B'] at cC
    rw[Bx] at cM cC
    rw[Cq,B',B']
    (try (simp -implicitDefEqProofs only[go_sem,hl,hty,MT,hc]));repeat' first|(with_reducible first|exact tI|refine aI ?_ ?_|intro _)|((first|with_reducible refine Af ?_ ?_<;>intro _|(with_reducible refine isCall ?_);first|(refine Ad ([((900000,0),(900000,0)),((901000,0),(901000,0)),((902000,0),(902000,0)),((903000,0),(903000,0))]) ([((900000,0),(900000,0)),((901000,0),(901000,0)),((902000,0),(902000,0)),((903000,0),(903000,0))]) (cJ) (by repeat' first|exact True.intro|exact rfl|refine And.intro ?_ ?_) (by simp[AW,Ah.get,AE.ren,AV.ren,AV.ren.renL,AB.get,AX,Ag,AY,AB.reach,AV.sites,AV.sites.sitesL,AB.osites]) (by simp[AL,Aq,AK,Ah.get,AY,A2,A9,AZ,AM]) (by rfl) (by simp only[Ai,Ah.get,AE.ren,AV.ren,AV.ren.renL,and_self,and_true,true_and,if_true,reduceIte];rfl) ?_)|refine Ae cM ?_|(refine Ad ([((900000,0),(900000,0)),((901000,0),(901000,0)),((902000,0),(902000,0)),((903000,0),(903000,0))]) ([((900000,0),(900000,0)),((901000,0),(901000,0)),((902000,0),(902000,0)),((903000,0),(903000,0))]) (cC) (by repeat' first|exact True.intro|exact rfl|refine And.intro ?_ ?_) (by simp[AW,Ah.get,AE.ren,AV.ren,AV.ren.renL,AB.get,AX,Ag,AY,AB.reach,AV.sites,AV.sites.sitesL,AB.osites]) (by simp[AL,Aq,AK,Ah.get,AY,A2,A9,AZ,AM]) (by rfl) (by simp only[Ai,Ah.get,AE.ren,AV.ren,AV.ren.renL,and_self,and_true,true_and,if_true,reduceIte];rfl) ?_))<;>try (simp -implicitDefEqProofs only[go_sem,hl,hty,MT,hc]))|simp (disch:=omega) only[A8]
    all_goals first|omega|rfl|exact .inl True.intro|exact .inr True.intro|trace_state
  ·rw[decide_eq_false hc,Bool.and_false,if_neg (by simp),Ox h.dd,Cq,B']
   (try (simp -implicitDefEqProofs only[go_sem,hl,hty,MT,hc]));repeat' first|(with_reducible first|exact tI|refine aI ?_ ?_|intro _)|((first|with_reducible refine Af ?_ ?_<;>intro _)<;>try (simp -implicitDefEqProofs only[go_sem,hl,hty,MT,hc]))|simp (disch:=omega) only[A8]
   all_goals first|omega|rfl|exact .inl True.intro|exact .inr True.intro|trace_state
end Go.Pw
end

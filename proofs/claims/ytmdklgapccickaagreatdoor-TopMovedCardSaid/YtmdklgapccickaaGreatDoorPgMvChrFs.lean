/- Part. -/
import Derived.Test.YtmdklgapccickaaGreatDoorPgMvChrDec
import Derived.Test.YtmdklgapccickaaGreatDoorMvPC
import Derived.Test.YtmdklgapccickaaGreatDoorPgMvChcJ
import Derived.Test.YtmdklgapccickaaGreatDoorPgMvChcA
import Derived.Test.YtmdklgapccickaaGreatDoorMvChcSpec2
import Derived.Test.YtmdklgapccickaaGreatDoorPgMvChcD
set_option linter.all false
open Option renaming getD->aa
open Nat renaming mul_le_mul_right->ax,mul_comm->ck,add_mul->cw,zero_le->eb,one_mul->hU,lt_or_ge->hY,succ_mul->i7,mod_lt->kk,div_lt_of_lt_mul->la
open List renaming getElem?_eq_getElem->ay,take_of_length_le->cp,all_eq_true->c8,range->ea,mem_map->et,mem_filter->hX,flatMap_cons->i5,take_append_of_le_length->lb,length_append->na
open Bool renaming false_eq_true->az,and_eq_true->j0
open Int renaming mul_nonneg->f0,mul_le_mul->j4
open Go Go.Pw Go.Proofs
namespace Go.Pw
set_option maxRecDepth 100000
set_option maxHeartbeats 3200000
def fs(xs:List Int):List F:=xs.map fun x=>Fin.ofNat 16 x.toNat
theorem ZE(xs:List Int):(fs xs).length=xs.length:=by simp[fs]
theorem pg:∀{xs:List Int},xs.all ST=true->iv (fs xs)=xs
 |[],_=>rfl
 |x::xs,h=>by
  simp only[List.all_cons,j0]at h;have hx:0<=x/\x<=15:=by simpa[ST]using h.1
  show((Fin.ofNat 16 x.toNat).val:Int)::iv (fs xs)=x::xs;rw[pg h.2];congr 1;show((x.toNat%16:Nat):Int)=x;omega
theorem y_(w:List F):(iv w).all ST=true:=by
 rw[c8];intro x hx;simp[iv]at hx;obtain⟨a,_,rfl⟩:=hx;have:=a.isLt;simp[ST];omega
theorem nM(w:List F)(m:Int):FL (iv w) m=decide ((w.length:Int)=m):=by
 unfold FL;rw[y_,Bool.and_true,Lm]
theorem U8{xs:List Int}{m:Int}(h:FL xs m=true):(xs.length:Int)=m/\iv (fs xs)=xs:=by
 unfold FL at h;simp only[j0,decide_eq_true_eq]at h;exact⟨h.1,pg h.2⟩
def nt(ms:List Int):List Nat:=ms.map Int.toNat
theorem ym(e:List Int):(nt e).length=e.length:=by simp[nt]
theorem Ob{e:List Int}{m:Int}(h:Gu e m=true){i:Nat}(hi:i<e.length):0<=e[i]?.getD 0/\e[i]?.getD 0<m/\(0<i->e[i-1]?.getD 0<e[i]?.getD 0):=by
 have:=(c8.1 h) i (by simpa using hi);simp only[uR,decide_eq_true_eq]at this;exact this
theorem AAg{e:List Int}{m:Int}(h:Gu e m=true):ni (nt e)=e:=by
 apply List.ext_getElem
 ·simp[ni,nt]
 ·intro i h1 h2;have:=(Ob h h2).1;rw[ay h2]at this;simp[ni,nt]at this ⊢;omega
theorem ri(e:List Int)(h:∀i,i<e.length->0<i->e[i-1]?.getD 0<e[i]?.getD 0):∀j i,i<j->j<e.length->e[i]?.getD 0<e[j]?.getD 0
 |0,i,h1,_=>by omega
 |j+1,i,h1,h2=>by
  have m:=h (j+1) h2 (by omega);rw[show j+1-1=j by omega]at m
  by_cases l:i=j
  ·subst l;exact m
  ·have:=ri e h j i (by omega) (by omega);omega
theorem yx{m:List Int}{L:Nat}(h:Gu m (L:Int)=true):gt L (nt m):=by
 have n:=ri m fun i hi h0=>(Ob h hi).2.2 h0
 refine⟨List.pairwise_iff_getElem.2 fun i j hi e l=>?_,fun j e=>?_⟩
 ·rw[ym]at hi e;have h1:=n j i l e;have h2:=(Ob h hi).1;rw[ay hi,ay e]at h1;rw[ay hi]at h2;simp[nt]at h1 h2 ⊢;omega
 ·simp only[nt,et]at e;obtain⟨x,hx,rfl⟩:=e;obtain⟨i,hi,rfl⟩:=List.getElem_of_mem hx;have h2:=Ob h hi;rw[ay hi]at h2;simp at h2;omega
theorem pO{L:Nat}{mk:List Nat}(h:gt L mk):mk.length<=L:=by
 have:=Qy mk (ea L) (FB h.asc) fun j e=>by simpa using h.lt j e
 simpa using this
def oE:Option (List F)->Int
 |some _=>0
 |none=>52
def oL:Option (List F)->List F
 |some r=>r
 |none=>[]
theorem t_(r:List F):oE (some r)=0:=rfl
theorem uA:oE none=52:=rfl
theorem t8(r:List F):oL (some r)=r:=rfl
theorem t9:oL none=[]:=rfl
section
theorem fX(w:List F):(iv w).isEmpty=w.isEmpty:=by cases w<;>rfl
theorem ti{w:List F}(h:0<w.length):w.isEmpty=false:=by cases w<;>simp_all
theorem Vd{w:List F}(h:0<w.length):(iv w).isEmpty=false:=by rw[fX];exact ti h
attribute [local irreducible] IntKind.wrap Ah aa and or
end
section
def DN(L P Q:Int):Bool:=JN L P && decide (1<=Q/\Q<=8)
theorem aJ{L P Q:Int}(h:DN L P Q=true):JN L P=true/\1<=Q/\Q<=8:=by simpa[DN]using h
def xI(L P Q:Int)(xs:List Int)(m:Int):Int:=if DN L P Q=true then if FL xs (Q*m)=true then 0 else 51 else 50
def opA(L P Q:Int)(e:Int):D:=if e=0 then .agg [.int .i64 L,.int .i64 P,.int .i64 Q]else .agg [.int .i64 0,.int .i64 0,.int .i64 0]
theorem iX(L P Q:Int):opA L P Q 0=.agg [.int .i64 L,.int .i64 P,.int .i64 Q]:=rfl
theorem e_(L P Q:Int):opA L P Q 51=.agg [.int .i64 0,.int .i64 0,.int .i64 0]:=rfl
theorem VU(L P Q:Int):opA L P Q 50=.agg [.int .i64 0,.int .i64 0,.int .i64 0]:=rfl
theorem dW:BA E0.P Dt=true:=by kernel_rfl
theorem YD:BA E0.P DZ=true:=by kernel_rfl
theorem Zh:BA E0.P FV=true:=by kernel_rfl
theorem ji:FL [] 0=true:=rfl
attribute [local irreducible] IntKind.wrap Ah aa and or
theorem Mb(L P:Int):BU E0 Dt [.agg [.int .i64 L,.int .i64 P]] (.int .i64 L):=by
 refine AL Nr AR (by simp) fun e=>?_
 rw[AN];unfold IL;refine' FP
theorem HY(L P:Int)(h:-1000<=L/\L<=1000/\-1000<=P/\P<=1000):BU E0 DZ [.agg [.int .i64 L,.int .i64 P]] (.int .i64 (L-P)):=by
 refine AL M0 AR (by simp) fun i=>?_
 rw[AN];unfold Hs;have e:IntKind.i64.wrap (L-P)=L-P:=Am _ (by omega);refine' HM e
theorem O8(L P:Int):BU E0 FV [.agg [.int .i64 L,.int .i64 P]] (.int .i64 0):=by
 refine AL O3 AR (by simp) fun e=>?_
 rw[AN];unfold I2;refine' FP
theorem Ed(L P Q:Int)(nl:Bool)(xs:List Int)(f:FuncId)(m:Int)(hb:BA E0.P f=true)(hm:0<=m/\m<=1000)(h:JN L P=true->BU E0 f [.agg [.int .i64 L,.int .i64 P]] (.int .i64 m)) :
  BU E0 OJ [.agg [.int .i64 L,.int .i64 P,.int .i64 Q],.list nl (Ad xs),.fn f []] (.tup [opA L P Q (xI L P Q xs m),.int .i64 (xI L P Q xs m)]):=by
 have c1:=Ru L P;refine AL S6 AR (by simp) fun l=>?_
 rw[AN];unfold MQ xI DN
 cases hc:JN L P with
 |false =>
  rw[hc]at c1;simp only[az,if_false,Bool.false_and]at c1 ⊢;rw[VU];refine' Fp;repeat' first|(refine' BJ;(first|refine AF c1 ?_)<;>refine' Fp)|refine' BI|done
  all_goals first|rfl|(simp;done)|skip
 |true =>
  rw[hc]at c1;simp only[if_true,Bool.true_and]at c1 ⊢
  by_cases i:1<=Q/\Q<=8
  ·have h1:¬Q<1:=by omega
   have h2:¬8<Q:=by omega
   have n:0<=Q*m/\Q*m<=8000:=by
    constructor
    ·exact f0 (by omega) (by omega)
    ·exact Int.le_trans (Int.mul_le_mul_of_nonneg_left hm.2 (by omega)) (by omega)
   have e:IntKind.i64.wrap (Q*m)=Q*m:=Am _ (by omega);rw[decide_eq_true i];simp only[if_true];have c2:=UP nl xs (Q*m);have j:=h hc
   cases hs:FL xs (Q*m)with
   |false =>
    rw[hs]at c2;simp only[az,if_false];rw[e_];refine' Gj h1 h2 e hb;repeat' first|(refine' BJ;(first|refine AF c1 ?_|refine AF c2 ?_|refine AF j ?_)<;>refine' Gj h1 h2 e hb)|refine' BI|done
    all_goals first|rfl|(simp;done)|skip
   |true =>
    rw[hs]at c2;simp only[if_true];rw[iX];refine' Gj h1 h2 e hb;repeat' first|(refine' BJ;(first|refine AF c1 ?_|refine AF c2 ?_|refine AF j ?_)<;>refine' Gj h1 h2 e hb)|refine' BI|done
    all_goals first|rfl|(simp;done)|skip
  ·rw[decide_eq_false i];simp only[az,if_false];rw[VU]
   by_cases h1:Q<1
   ·refine' J6 h1;repeat' first|(refine' BJ;(first|refine AF c1 ?_)<;>refine' J6 h1)|refine' BI|done
    all_goals first|rfl|(simp;done)|skip
   ·have h2:8<Q:=by omega
    refine' FS h1 h2;repeat' first|(refine' BJ;(first|refine AF c1 ?_)<;>refine' FS h1 h2)|refine' BI|done
    all_goals first|rfl|(simp;done)|skip
theorem Rv(L P Q:Int):BU E0 Mp [.agg [.int .i64 L,.int .i64 P,.int .i64 Q]] (.tup [.int .i64 (if DN L P Q=true then Q*(P/2)else 0),.int .i64 (if DN L P Q=true then Q*P else 0),.int .i64 (if DN L P Q=true then 0 else 50)]):=by
 have c1:=Ed L P Q true [] FV 0 Zh (by omega) fun _=>O8 L P
 refine AL Rj AR (by simp) fun l=>?_
 rw[AN];unfold Kt;unfold xI at c1
 cases hw:DN L P Q with
 |false =>
  rw[hw]at c1;simp only[az,if_false]at c1 ⊢;rw[VU]at c1;refine' Fp;repeat' first|(refine' BJ;(first|refine AF c1 ?_)<;>refine' Fp)|refine' BI|done
  all_goals first|rfl|(simp;done)|skip
 |true =>
  obtain⟨hc,j⟩:=aJ hw;have hb:=Ny hc;rw[hw,show FL [] (Q*0)=true by rw[Int.mul_zero];exact ji]at c1;simp only[if_true]at c1 ⊢;rw[iX]at c1;have hd:P.tdiv 2=P/2:=Int.tdiv_eq_ediv_of_nonneg (by omega);have i:IntKind.i64.wrap (P/2)=P/2:=Am _ (by omega);have b1:0<=Q*(P/2)/\Q*(P/2)<=8*8:=⟨f0 (by omega) (by omega),j4 j.2 (by omega) (by omega) (by omega)⟩
  have b2:0<=Q*P/\Q*P<=8*8:=⟨f0 (by omega) (by omega),j4 j.2 (by omega) (by omega) (by omega)⟩
  have e:IntKind.i64.wrap (Q*(P/2))=Q*(P/2):=Am _ (by omega);have h:IntKind.i64.wrap (Q*P)=Q*P:=Am _ (by omega);refine' Gj hd i e h;repeat' first|(refine' BJ;(first|refine AF c1 ?_)<;>refine' Gj hd i e h)|refine' BI|done
  all_goals first|rfl|(simp;done)|skip
end
section
attribute [local irreducible] IntKind.wrap Ah aa and or
end
section
attribute [local irreducible] IntKind.wrap Ah aa and or
end
theorem get_mem{l:List Nat}{i:Nat}(h:i<l.length):l[i]?.getD 0∈l:=by rw[iZ _ _ h];exact List.getElem_mem h
section
attribute [local irreducible] IntKind.wrap Ah aa and or
end
section
attribute [local irreducible] IntKind.wrap Ah aa and or
end
section
attribute [local irreducible] IntKind.wrap Ah aa and or
end
section
attribute [local irreducible] IntKind.wrap Ah aa and or
end
theorem ZV{q k j:Nat}(h:k<q):(j*q+k)/q=j:=by
 rw[ck,Nat.mul_add_div (by omega),Nat.div_eq_of_lt h,Nat.add_zero]
theorem Vq{q k j:Nat}(h:k<q):(j*q+k)%q=k:=by
 rw[ck,Nat.mul_add_mod,Nat.mod_eq_of_lt h]
theorem Tk{q k j m:Nat}(h:k<q)(e:j<m):j*q+k<m*q:=by
 have:=ax q (show j+1<=m by omega);rw[cw,hU]at this;omega
theorem dI(q i:Nat):i/q*q+i%q=i:=Nat.div_add_mod' i q
def Cp(m q k:Nat)(b:List F):List F:=(ea m).map fun j=>b[j*q+k]?.getD 0
theorem Cu(m q k:Nat)(b:List F):(Cp m q k b).length=m:=by simp[Cp]
theorem Si{m q k:Nat}{b:List F}(j:Nat)(h:j<m):(Cp m q k b)[j]?.getD 0=b[j*q+k]?.getD 0:=by simp[Cp,h]
def Jj(m q:Nat)(W:Nat->List F):List F:=(ea (m*q)).map fun i=>(W (i%q))[i/q]?.getD 0
theorem JP(m q:Nat)(W:Nat->List F):(Jj m q W).length=m*q:=by simp[Jj]
theorem R6{m q:Nat}{W:Nat->List F}(i:Nat)(h:i<m*q):(Jj m q W)[i]?.getD 0=(W (i%q))[i/q]?.getD 0:=by simp[Jj,h]
theorem WB{m q:Nat}(e:0<q){W V:Nat->List F}(h:∀k,k<q->W k=V k):Jj m q W=Jj m q V:=by
 unfold Jj;apply List.map_congr_left;intro i hi;rw[h _ (kk _ e)]
theorem dY{m q:Nat}(e:0<q){b:List F}(hb:b.length=m*q):Jj m q (fun k=>Cp m q k b)=b:=by
 apply qd
 ·rw[JP,hb]
 ·intro i hi;rw[JP]at hi;show(Jj m q fun k=>Cp m q k b)[i]?.getD 0=b[i]?.getD 0;rw[R6 i hi,Si _ (la (by rw[ck];exact hi)),dI]
def TZ(q k:Nat)(ms:List Nat):List Nat:=(ms.filter fun i=>i%q == k).map (·/q)
theorem Y7{m q k:Nat}(p:0<q){l:List Nat}(h:gt (m*q) l):gt m (TZ q k l):=by
 refine⟨?_,fun j e=>?_⟩
 ·unfold TZ;rw[List.pairwise_map];refine List.Pairwise.imp_of_mem (fun {a b} o hb n=>?_) (h.asc.filter _);simp only[hX,beq_iff_eq]at o hb;have e1:=dI q a;have e2:=dI q b;rcases hY (a/q) (b/q)with h1|h1
  ·exact h1
  ·have:=ax q h1;omega
 ·simp only[TZ,et,hX,beq_iff_eq]at e;obtain⟨i,⟨hi,_⟩,rfl⟩:=e;exact la (by rw[ck];exact h.lt i hi)
theorem uN{q k j:Nat}(hk:k<q){e:List Nat}:j∈TZ q k e↔j*q+k∈e:=by
 simp only[TZ,et,hX,beq_iff_eq];constructor
 ·rintro⟨i,⟨h1,h2⟩,rfl⟩;have:=dI q i;rw[h2]at this;rwa [this]
 ·intro h;exact⟨j*q+k,⟨h,Vq hk⟩,ZV hk⟩
theorem bo(q k x:Nat)(ms:List Nat):TZ q k (ms++[x])=if x%q=k then TZ q k ms++[x/q]else TZ q k ms:=by
 unfold TZ;rw[List.filter_append,List.map_append]
 by_cases h:x%q=k
 ·rw[if_pos h];simp[h]
 ·rw[if_neg h];simp[h]
def XS(L P q:Nat)(d:List F):List F:=Jj L q fun k=>H9 P (Cp (L-P) q k d)
theorem Yc(L P q:Nat)(d:List F):(XS L P q d).length=L*q:=JP ..
noncomputable def iu(L P q:Nat)(b:List F)(ms:List Nat)(k:Nat):Option (List F):=Rr L P (Cp L q k b) (TZ q k ms)
noncomputable def mr(L P q:Nat)(b:List F)(ms:List Nat)(k:Nat):List F:=match iu L P q b ms k with
 |some r=>r.take (L-P)
 |none=>[]
theorem RG{L P q:Nat}{b:List F}{e:List Nat}{k:Nat}{r:List F}(h:iu L P q b e k=some r):mr L P q b e k=r.take (L-P):=by
 unfold mr;rw[h]
noncomputable def ir(L P q:Nat)(b:List F)(ms:List Nat):Option (List F):=if ∀k,k<q->(iu L P q b ms k).isSome=true then some (Jj (L-P) q (mr L P q b ms))else none
theorem ft{L P q:Nat}{b:List F}{e:List Nat}(h:∀k,k<q->(iu L P q b e k).isSome=true):ir L P q b e=some (Jj (L-P) q (mr L P q b e)):=by unfold ir;rw[if_pos h]
theorem zI{L P q:Nat}{b:List F}{e:List Nat}{k:Nat}(hk:k<q)(h:iu L P q b e k=none):ir L P q b e=none:=by
 unfold ir;rw[if_neg fun h2=>by have:=h2 k hk;rw[h]at this;cases this]
theorem mT{q k a n t:Nat}(hk:k<q)(hn:n<=q*t){l:List Nat}(i:l.Nodup)(h:∀j,j∈l->a<=j*q+k/\j*q+k<a+n):l.length<=t:=by
 have h0:∃e,a<=e*q+k/\∀j,a<=j*q+k->e<=j:=by
  have hs:=kk (a+q-1-k) (show 0<q by omega);have y:=dI q (a+q-1-k);refine⟨(a+q-1-k)/q,by omega,fun j o=>?_⟩;rcases hY j ((a+q-1-k)/q)with h1|h1
  ·have:=ax q (show j+1<=(a+q-1-k)/q by omega);rw[cw,hU]at this;omega
  ·exact h1
 obtain⟨e,h1,h2⟩:=h0
 have:=Qy l (List.range' e t) i fun j o=>by
  obtain⟨u,x⟩:=h j o;have p:=h2 j u;simp only[List.mem_range'_1];refine⟨p,?_⟩;rcases hY j (e+t)with m|m
  ·exact m
  ·have r:=ax q m;rw[cw,ck t q]at r;omega
 simpa using this
theorem Wk{L P q:Nat}(m:L<=15)(l:P<L)(i:0<q){d R:List F}{e:List Nat}(hd:d.length=(L-P)*q)(n:R.length=L*q)(hm:gt (L*q) e)
  (h:∀k,k<q->2*(P7 L (H9 P (Cp (L-P) q k d)) (Cp L q k R) (TZ q k e)).length+(TZ q k e).length<=P):ir L P q R e=some d:=by
 have j:∀k,k<q->iu L P q R e k=some (H9 P (Cp (L-P) q k d)):=fun k hk=>by
  have hl:=Cu (L-P) q k d;have hc:=dC P (Cp (L-P) q k d);rw[hl,show L-P+P=L by omega]at hc;exact ze m (Cu ..) (by rw[JC,hl];omega) (Y7 i hm) hc (h k hk)
 rw[ft fun k hk=>by rw[j k hk];rfl];congr 1
 rw[WB i (V:=fun k=>Cp (L-P) q k d) fun k hk=>by
  rw[RG (j k hk)];unfold H9
  rw[lb (by rw[Cu];omega),cp (by rw[Cu];omega)]]
 exact dY i hd
def I1:PC :=
 .seq (.reg [] (AB 3 .box 0::AG 6 .mov [.k (.d (.list true []))]::AM 7 0::[]) [1,2,3]) (.seq (.reg [] (AB 18 (.load true 3) 3::AA 19 1::AG 20 (.call 75) [.t 18,.t 19,.k (.fn 134 [])]::AA 17 20::AW 21 0 17::AW 22 1 17::AG 8 (.zero [.int .i64 0,.int .i64 0,.int .i64 0]) []::Ae (.store 3) [.t 8,.t 21]::AA 9 22::[]) [1,2,8,9]) (.seq (.seq (.reg [] (AA 23 9::AK 24 (.bin .neq) 23 0::[]) [1,2,8,9,24]) (.cond (.t 24) (.seq (.reg [] (AA 25 9::AG 6 .mov [.k (.d (.list true []))]::AA 7 25::[]) [6,7]) (.ret)) (.skip))) (.seq (.seq (.reg [] (AA 26 2::AA 27 1::AB 28 (.len false) 27::AD 29 (.call 135) 26 28::AB 30 (.un .not) 29::[]) [1,2,8,30]) (.cond (.t 30) (.seq (.reg [] (AG 6 .mov [.k (.d (.list true []))]::AM 7 1::[]) [6,7]) (.ret)) (.skip))) (.seq (.reg [] (AG 10 .mov [.k (.d (.list true []))]::[]) [1,2,8,10]) (.seq (.seq (.reg [] (AJ 31 2 8::AH 32 1 31::AM 33 0::[]) [1,2,8,10,32,33]) (.block 0 (.loop [.own 10 76 147 1] [1,2,8,10,32,33] [8,20,76,10020,900001,900002,901001,901002,800001,800002,801001,801002,902001,903001,902002,903002] (.seq (.reg [] (AD 34 (.bin .lss) 33 32::[]) [1,2,8,10,32,33,34]) (.seq (.cond (.t 34) (.skip) (.exit 0)) (.seq (.block 1 (.seq (.reg [] (AA 35 33::AA 11 35::[]) [1,2,8,10,11,32,33]) (.seq (.reg [] (AG 12 .mov [.k (.d (.list true []))]::[]) [1,2,8,10,11,12,32,33]) (.seq (.seq (.reg [] (AA 36 2::AB 37 (.len false) 36::AM 38 0::[]) [1,2,8,10,11,12,32,33,36,37,38]) (.block 2 (.loop [.own 10 76 147 1,.own 12 54 3 1] [1,2,8,10,11,12,32,33,36,37,38] [8,20,54,76,10020,900001,900002,901001,901002,800001,800002,801001,801002,902001,903001,902002,903002] (.seq (.reg [] (AD 39 (.bin .lss) 38 37::[]) [1,2,8,10,11,12,32,33,36,37,38,39]) (.seq (.cond (.t 39) (.skip) (.exit 2)) (.seq (.block 3 (.seq (.reg [] (AD 40 (.iaddrS 1) 36 38::AH 41 1 40::AA 14 41::[]) [1,2,8,10,11,12,14,32,33,36,37,38]) (.seq (.reg [] (AA 42 14::AJ 43 2 8::AH 44 1 43::AD 45 (.bin .rem) 42 44::AA 46 11::AD 47 (.bin .eql) 45 46::[]) [1,2,8,10,11,12,14,32,33,36,37,38,47]) (.cond (.t 47) (.reg [] (AA 48 12::AA 49 14::AJ 50 2 8::AH 51 1 50::AD 52 (.bin .quo) 49 51::AB 53 (.mkrow 1 (.int .i64 0) 1 [0]) 52::AD 54 (.app 3 1 none true) 48 53::AA 12 54::[]) [1,2,8,10,11,12,32,33,36,37,38]) (.skip))))) (.reg [] (AK 55 (.bin .add) 38 1::AA 38 55::[]) [1,2,8,10,11,12,32,33,36,37,38]))))))) (.seq (.draw [.freeze 12] ((AJ 57 0 8,[])::(AB 58 (.load true 2) 57,[])::(AB 59 (.load true 3) 8,[])::(AA 60 1,[])::(AA 61 11,[])::(AG 62 (.call 78) [.t 59,.t 60,.t 61],[1])::(AA 63 12,[])::(AG 64 (.call 136) [.t 58,.t 62,.t 63],[])::(AA 56 64,[])::(AW 65 0 56,[])::(AW 66 1 56,[])::(AA 15 65,[])::(AA 16 66,[])::[]) [1,2,8,10,15,16,32,33]) (.seq (.seq (.reg [] (AA 67 16::AB 68 (.un .not) 67::[]) [1,2,8,10,15,32,33,68]) (.cond (.t 68) (.seq (.reg [] (AG 6 .mov [.k (.d (.list true []))]::AM 7 52::[]) [6,7]) (.ret)) (.skip))) (.reg [] (AA 69 10::AA 70 15::AJ 71 0 8::AB 72 (.load true 2) 71::AB 73 (.call 76) 72::AD 74 (.slice 1 false true false) 70 73::AB 75 (.mkrow 1 (.list true []) 1 [0]) 74::AD 76 (.app 147 1 none true) 69 75::AA 10 76::[]) [1,2,8,10,32,33]))))))) (.reg [] (AK 77 (.bin .add) 33 1::AA 33 77::[]) [1,2,8,10,32,33]))))))) (.seq (.reg [.freeze 10] (AB 78 (.load true 3) 8::AA 79 10::AD 80 (.call 79) 78 79::AA 6 80::AM 7 0::[]) [6,7]) (.ret)))))))
theorem O2:Br E0 LR I1 [.t 6,.t 7] 81:=AI (fl:=[]) (by kernel_rfl)
section
def sG(l:List (List F)):List D:=l.map fun r=>.list false (us r)
theorem sS(l:List (List F)):(sG l).length=l.length:=by simp[sG]
theorem nC(l:List (List F))(r:List F):sG l++[.list false (us r)]=sG (l++[r]):=by simp[sG]
theorem kU{e:List (List F)}{i:Nat}{A:D->Prop}:Au (sG e)[i]? A=(i<e.length/\A (.list false (us (e[i]?.getD [])))):=by
 unfold sG;rw[List.getElem?_map]
 by_cases h:i<e.length
 ·simp[h,Au]
 ·have:e[i]?=none:=List.getElem?_eq_none (by omega);simp[this,h,Au]
attribute [go_sem] sS nC kU
theorem kM(m q k j:Nat)(b:List F)(h:j<m):(Cp m q k b).take j++[b[j*q+k]?.getD 0]=(Cp m q k b).take (j+1):=by
 rw[←Si j h,Bu _ 0 j (by rw[Cu];exact h)]
theorem AAs{m q k j n:Nat}(hk:k<q)(hn:n=m*q)(h:j<m):k+j*q<n:=by have:=Tk hk h;omega
theorem AAt{m q k n:Nat}(hn:n=m*q):¬k+m*q<n:=by omega
theorem pN{m q:Nat}(hm:m<=15)(e:q<=8):m*q<=120:=Nat.mul_le_mul hm e
def dx(q:Nat)(W:Nat->List F):List (List F):=(ea q).map W
theorem UW(q:Nat)(W:Nat->List F):(dx q W).length=q:=by simp[dx]
theorem YQ{q:Nat}{W:Nat->List F}{k:Nat}(h:k<q):(dx q W)[k]?.getD []=W k:=by simp[dx,h]
theorem aE{q:Nat}{W:Nat->List F}{k:Nat}(h:k<q):(dx q W).take k++[W k]=(dx q W).take (k+1):=by
 have:=Bu (dx q W) [] k (by rw[UW];exact h);rwa [YQ h]at this
theorem rd{m q i k:Nat}{W:Nat->List F}(hi:i<m)(hk:k<q):(Jj m q W).take (i*q+k)++[(W k)[i]?.getD 0]=(Jj m q W).take (i*q+(k+1)):=by
 have h:=Tk hk hi;rw[←Nat.add_assoc,←Bu _ 0 (i*q+k) (by rw[JP];exact h),R6 _ h,ZV hk,Vq hk]
theorem mY(b:Bool):(b && decide ((0:Nat)=0))=b:=by simp
theorem WH(b:Bool){k:Nat}(h:k≠0):(b && decide (k=0))=false:=by simp[h]
def ao(L P Q:Int)(xs:List Int):Int:=if DN L P Q=true then if FL xs (Q*(L-P))=true then 0 else 51 else 50
def Z6(L P Q:Int)(xs:List Int):List Int:=if DN L P Q=true then if FL xs (Q*(L-P))=true then iv (XS L.toNat P.toNat Q.toNat (fs xs))else []else []
noncomputable def gaE(L P Q:Int)(xs ms:List Int):Int:=if DN L P Q=true then if FL xs (Q*L)=true then if Gu ms xs.length=true then oE (ir L.toNat P.toNat Q.toNat (fs xs) (nt ms))else 1 else 51 else 50
noncomputable def zx(L P Q:Int)(xs ms:List Int):List Int:=if DN L P Q=true then if FL xs (Q*L)=true then if Gu ms xs.length=true then iv (oL (ir L.toNat P.toNat Q.toNat (fs xs) (nt ms)))else []else []else []
theorem Qa{L P Q:Int}(h:DN L P Q=true):∃l p q:Nat,L=(l:Int)/\P=(p:Int)/\Q=(q:Int)/\2<=l/\l<=15/\1<=p/\p<=8/\p<l/\1<=q/\q<=8/\JN (l:Int) (p:Int)=true:=by
 obtain⟨hc,h1,h2⟩:=aJ h;obtain⟨l,p,rfl,rfl,b1,b2,i,e,j⟩:=mG hc;exact⟨l,p,Q.toNat,rfl,rfl,by omega,b1,b2,i,e,j,by omega,by omega,hc⟩
theorem Y9{n m q:Nat}(h:(n:Int)=(q:Int)*(m:Int)):n=m*q:=by
 rw[ck];exact_mod_cast h
theorem pP(q k i:Nat)(e:List Nat)(h:i<e.length):TZ q k (e.take (i+1))=if(e[i]?.getD 0)%q=k then TZ q k (e.take i)++[(e[i]?.getD 0)/q]else TZ q k (e.take i):=by
 rw[←Bu e 0 i h,bo]
attribute [local irreducible] IntKind.wrap Ah aa and or
theorem LE(L P q m k:Nat)(n:Bool)(b:List F)(hm:m<=15)(B:1<=m)(J:q<=8)(hk:k<q)(hb:b.length=m*q) :
  BU E0 H3 [.agg [.int .i64 (L:Int),.int .i64 (P:Int),.int .i64 (q:Int)],.list n (Ad (iv b)),.int .i64 (k:Int)] (.list false (us (Cp m q k b))):=by
 have y:=pN hm J;have G:=Cu m q k b;refine AL Lr AR (by simp) fun z=>?_
 rw[AN];unfold HJ;refine' FP
 all_goals try exact BL
 refine AZ (α:=Nat×Nat×Bool) (fun x=>[(8,.d (.int .i64 (x.2.1:Int)))]) (fun x=>[(25,.row 180 1 x.2.2 (us ((Cp m q k b).take x.1)))]) (fun x=>x.1<=m/\x.2.1=k+x.1*q/\x.2.2=decide (x.1=0)) (fun x=>m-x.1) (0,k,true) ?hI1 ?step1
 case' step1=>(rintro⟨j,s,e⟩ u;try dsimp only at u)
 case' hI1=>try dsimp only
 ·exact⟨eb _,by simp,rfl⟩
 ·obtain⟨h1,hs,h2⟩:=u;change e=decide (j=0)at h2;subst h2;have A:=ax q h1
  by_cases h:j<m
  ·have h0:=AAs hk hb h;rw[←hs]at h0;have h':(s:Int)<(b.length:Int):=by omega
   have i:s+q=k+(j+1)*q:=by rw[cw,hU];omega
   have o:IntKind.i64.wrap ((s:Int)+(q:Int))=((s+q:Nat):Int):=by rw[Am _ (by omega)];omega
   have l:=kM m q k j b h;rw[Nat.add_comm (j*q) k,←hs]at l;refine' bq h0 h' o l @AAC
   all_goals try exact BL
   all_goals first|exact⟨i,rfl⟩|exact i|rfl|skip
  ·have p:j=m:=by omega
   subst p;have h0:=AAt (k:=k) hb;have h':¬(s:Int)<(b.length:Int):=by omega
   have r:(Cp j q k b).take j=Cp j q k b:=cp (by omega);have t:decide (j=0)=false:=decide_eq_false (by omega);rw[r,t];refine' HM h'
   all_goals try exact BL
   all_goals first|rfl|skip
theorem LF(x:D)(q m:Nat)(W:Nat->List F)(hm:m<=15)(ε:1<=m)(hq:q<=8)(β:1<=q)(O:∀k,k<q->(W k).length=m)(hx:∃a b c,x=.agg [.int .i64 a,.int .i64 b,.int .i64 c]) :
  BU E0 H4 [x,.list false (sG (dx q W))] (.list false (Ad (iv (Jj m q W)))):=by
 obtain⟨a,b,c,rfl⟩:=hx;have Y:=pN hm hq;have X:=JP m q W;have p:=UW q W;have h0:0<(dx q W).length:=by omega
 have M:(dx q W)[0]?.getD []=W 0:=YQ (by omega);have z:=O 0 (by omega);refine AL Ls AR (by simp) fun γ=>?_
 rw[AN];unfold HK;refine' LV h0 M z
 all_goals try exact BL
 refine AZ (α:=Nat×Nat×Bool) (fun x=>[(13,.d (.int .i64 (x.1:Int)))]) (fun x=>[(29,.row 3 1 x.2.2 (Ad (iv ((Jj m q W).take x.2.1))))]) (fun x=>x.1<=m/\x.2.1=x.1*q/\x.2.2=decide (x.1=0)) (fun x=>m-x.1) (0,0,true) ?hI2 ?step2
 case' step2=>(rintro⟨i,n,e⟩ N;try dsimp only at N)
 case' hI2=>try dsimp only
 ·exact⟨eb _,by simp,rfl⟩
 ·obtain⟨U,hn,R⟩:=N;change e=decide (i=0)at R;subst R;have δ:=ax q U
  by_cases h:i<m
  ·have h':(i:Int)<(m:Int):=by omega
   have u:=HE (i:=i) (by omega);have B:=fun k hk=>@rd m q i k W h hk
   have S:i*q+q=(i+1)*q:=by rw[cw];omega
   refine' MX h' p
   all_goals try exact BL
   refine AZ (α:=Nat×Nat×Bool) (fun x=>[(18,.d (.int .i64 (x.1:Int)))]) (fun x=>[(29,.row 3 1 x.2.2 (Ad (iv ((Jj m q W).take x.2.1))))]) (fun x=>x.1<=q/\x.2.1=i*q+x.1/\x.2.2=(decide (i=0) && decide (x.1=0))) (fun x=>q-x.1) (0,n,(decide (i=0))) ?hI3 ?step3
   case' step3=>(rintro⟨k,n2,e2⟩ hI2;try dsimp only at hI2)
   case' hI3=>try dsimp only
   ·exact⟨eb _,hn,(mY _).symm⟩
   ·obtain⟨k1,L,k2⟩:=hI2;change e2=(decide (i=0) && decide (k=0))at k2
    by_cases hk:k<q
    ·have o:(k:Int)<(q:Int):=by omega
     have G:=HE (i:=k) (by omega);have hg:=YQ (W:=W) hk;have A:=O k hk;have r:=B k hk;have j:n2+1=i*q+(k+1):=by omega
     rw[←L,←j]at r;have l:false=(decide (i=0) && decide (k+1=0)):=(WH _ (by omega)).symm;have Z:n2<=120:=by have:=Tk hk h;omega
     refine' P4 o G p hk hg A r (aI h @xf)
     all_goals try exact BL
     all_goals first|exact⟨j,l⟩|exact j|exact l|rfl|(simp;done)|skip
    ·have o:¬(k:Int)<(q:Int):=by omega
     have T:k=q:=by omega
     have j:n2=(i+1)*q:=by omega
     have l:e2=decide (i+1=0):=by rw[k2,WH _ (by omega),decide_eq_false (by omega)]
     refine' LV o p u
     all_goals try exact BL
     all_goals first|exact⟨j,l⟩|exact j|exact l|rfl|(simp;done)|skip
  ·have h':¬(i:Int)<(m:Int):=by omega
   have t:i=m:=by omega
   subst t;have y:(Jj i q W).take n=Jj i q W:=cp (by omega);have J:decide (i=0)=false:=decide_eq_false (by omega);rw[y,J];refine' HM h'
   all_goals try exact BL
   all_goals first|rfl|skip
theorem QI(L P Q:Int)(n:Bool)(xs:List Int):BU E0 LQ [.agg [.int .i64 L,.int .i64 P,.int .i64 Q],.list n (Ad xs)] (.tup [.list (Z6 L P Q xs).isEmpty (Ad (Z6 L P Q xs)),.int .i64 (ao L P Q xs)]):=by
 refine AL QB AR (by simp) fun Y=>?_
 rw[AN];unfold Jy Z6 ao
 cases hw:DN L P Q with
 |false =>
  have c1:=Ed L P Q n xs DZ (if JN L P=true then L-P else 0) YD (by
   split
   ·rename_i hc;have:=Ny hc;omega
   ·omega) fun hc=>by rw[if_pos hc];have:=Ny hc;exact HY L P (by omega)
  unfold xI at c1;rw[hw]at c1;simp only[az,if_false]at c1 ⊢;rw[VU]at c1;refine' Fp;repeat' first|(refine' BJ;(first|refine AF c1 ?_)<;>refine' Fp)|refine' BI|done
  all_goals first|rfl|(simp;done)|skip
 |true =>
  obtain⟨l,p,q,rfl,rfl,rfl,b1,b2,S,b4,b5,Z,N,hc⟩:=Qa hw;have c1:=Ed l p q n xs DZ ((l:Int)-(p:Int)) YD (by omega) fun hc=>HY l p (by omega)
  unfold xI at c1;rw[hw]at c1;simp only[if_true]at c1 ⊢
  cases hs:FL xs ((q:Int)*((l:Int)-(p:Int)))with
  |false =>
   rw[hs]at c1;simp only[az,if_false]at c1 ⊢;rw[e_]at c1;refine' Fp;repeat' first|(refine' BJ;(first|refine AF c1 ?_)<;>refine' Fp)|refine' BI|done
   all_goals first|rfl|(simp;done)|skip
  |true =>
   rw[hs]at c1;simp only[if_true]at c1 ⊢;rw[iX]at c1;obtain⟨hl,O⟩:=U8 hs;obtain⟨d,hd⟩:∃d,fs xs=d:=⟨_,rfl⟩
   rw[hd]at O ⊢;subst O;rw[Lm,show((l:Int)-(p:Int))=((l-p:Nat):Int) by omega]at hl;have t:=Y9 hl;simp only[Int.toNat_natCast];have c2:=fun k hk=>LE l p q (l-p) k n d (by omega) (by omega) N hk t
   have o:XS l p q d=Jj l q fun k=>H9 p (Cp (l-p) q k d):=rfl
   have J:=fun k=>QG l p false (Cp (l-p) q k d) b2 S (by rw[Cu];omega) (by rw[Cu];omega) rfl
   have r:∀k,k<q->(H9 p (Cp (l-p) q k d)).length=l:=fun k _=>by rw[JC,Cu];omega
   obtain⟨W,G⟩:∃W:Nat->List F,(fun k=>H9 p (Cp (l-p) q k d))=W:=⟨_,rfl⟩
   have u:∀k,H9 p (Cp (l-p) q k d)=W k:=fun k=>by rw[←G]
   simp only[u]at J r;rw[G]at o;rw[o];have R:=LF (.agg [.int .i64 (l:Int),.int .i64 (p:Int),.int .i64 (q:Int)]) q l W b2 (by omega) N Z r ⟨_,_,_,rfl⟩;have T:0<(Jj l q W).length:=by rw[JP];exact Nat.mul_pos (by omega) (by omega)
   rw[Vd T];have z:=fun k hk=>@aE q W k hk
   have X:=UW q W;refine' Fp;repeat' first|(refine' BJ;(first|refine AF c1 ?_)<;>refine' Fp)|refine' BI|done
   all_goals try exact BL
   refine AZ (α:=Nat×Bool) (fun x=>[(21,.d (.int .i64 (x.1:Int)))]) (fun x=>[(33,.row 147 1 x.2 (sG ((dx q W).take x.1)))]) (fun x=>x.1<=q/\x.2=decide (x.1=0)) (fun x=>q-x.1) (0,true) ?hI4 ?step4
   case' step4=>(rintro⟨k,e⟩ B;try dsimp only at B)
   case' hI4=>try dsimp only
   ·exact⟨eb _,rfl⟩
   ·obtain⟨k1,k2⟩:=B;change e=decide (k=0)at k2;subst k2
    by_cases hk:k<q
    ·have h:(k:Int)<(q:Int):=by omega
     have m:=HE (i:=k) (by omega);have c5:=c2 k hk;have M:=J k;have j:=z k hk;rw[DC]at M;refine' FA h m j;repeat' first|(refine' BJ;(first|refine AF c5 ?_|refine AF M ?_)<;>refine' FA h m j)|refine' BI|done
     all_goals try exact BL
     all_goals first|rfl|skip
    ·have h:¬(k:Int)<(q:Int):=by omega
     have U:k=q:=by omega
     have A:decide (k=0)=false:=decide_eq_false (by omega);have y:(dx q W).take k=dx q W:=cp (by omega);rw[A,y];refine' J6 h;repeat' first|(refine' BJ;(first|refine AF R ?_)<;>refine' J6 h)|refine' BI|done
     all_goals first|rfl|omega|(simp;done)|skip
end
def Ag.ok(c:Ag):Bool:=c.code.ok && (DN c.L c.P c.Q && (decide (c.Q*c.L<=32) && (DP c.mark && (Cw c.seed 1 127 && (Cw c.errs 0 16 && Nm c.code 16)))))
def Ag.flat(c:Ag)(X:List Int):List Int:=X.flatMap fun x=>c.code.stm x.toNat
def Mv(c:Ag)(block:List Int):List Int:=c.mark++c.flat (DL c.seed block)
def Wf(c:Ag)(d:List Int):List Int:=if c.ok=true then if ao c.L c.P c.Q d=0 then Mv c (Z6 c.L c.P c.Q d)else []else []
def aG(c:Ag)(d:List Int):Int:=if c.ok=true then if ao c.L c.P c.Q d=0 then 0 else 51 else 130
noncomputable def fj(c:Ag)(sy:List (Option Nat)):List Int:=zx c.L c.P c.Q (DL c.seed (Q_ sy)) (ni (mq sy))
noncomputable def Z9(c:Ag)(sy:List (Option Nat)):Int:=gaE c.L c.P c.Q (DL c.seed (Q_ sy)) (ni (mq sy))
def Pz(bits:List Int):Bool:=decide (bits.length<=1000) && Ap bits
noncomputable def oW(c:Ag)(bits:List Int):Int:=if c.ok=true then if Pz bits=true then match c.find bits with
 |none=>3
 |some a=>Z9 c (c.syL bits a)
 else 131 else 130
noncomputable def iR(c:Ag)(bits:List Int):List Int:=if c.ok=true then if Pz bits=true then match c.find bits with
 |none=>[]
 |some a=>fj c (c.syL bits a)
 else []else []
noncomputable def oX(c:Ag)(bits:List Int):Int:=if c.ok=true then if Pz bits=true then match c.find bits with
 |none=>0
 |some a=>if Z9 c (c.syL bits a)=0 then a else 0
 else 0 else 0
theorem dG{α:Type}(a b:List α)(n:Nat):(a++b).drop (a.length+n)=b.drop n:=by
 rw[List.drop_append,List.drop_eq_nil_of_le (by omega),List.nil_append,show a.length+n-a.length=n by omega]
theorem X1{α:Type}{f:α->List Int}{m:Nat}(e:∀x,(f x).length=m):∀(l:List α) (i:Nat) (h:i<l.length),((l.flatMap f).drop (i*m)).take m=f l[i]
 |[],_,h=>by cases h
 |x::l,0,_=>by
  rw[Nat.zero_mul,List.drop_zero,i5];exact List.take_left' (e x)
 |x::l,i+1,h=>by
  rw[i5,show(i+1)*m=(f x).length+i*m by rw[e,i7];omega,dG];exact X1 e l i (by simpa using h)
theorem cg{α:Type}{f:α->List Int}{m:Nat}(e:∀x,(f x).length=m):∀l:List α,(l.flatMap f).length=l.length*m
 |[]=>by simp
 |x::l=>by rw[i5,na,e,cg e l,List.length_cons,i7];omega
theorem TH(c:Ag)(X:List Int):(c.flat X).length=X.length*c.code.sz:=cg (fun x=>Qc ..) X
theorem iJ(c:Ag)(b:List Int):(Mv c b).length=c.mark.length+b.length*c.code.sz:=by
 unfold Mv;rw[na,TH,D7]
theorem bJ(c:Ag)(X e:List Int)(i:Nat)(h:i<X.length):c.part (c.mark++c.flat X++e) 0 i=c.code.stm (X[i]?.getD 0).toNat:=by
 unfold Ag.part;rw[Nat.zero_add,List.append_assoc,dG];have h1:=TH c X;have h2:(i+1)*c.code.sz<=X.length*c.code.sz:=ax _ h;rw[i7]at h2;rw[List.drop_append_of_le_length (by rw[h1];omega),lb (by rw[List.length_drop,h1];omega)];have:=X1 (f:=fun x:Int=>c.code.stm x.toNat) (fun x=>Qc ..) X i h;rw[ay h];exact this
section
attribute [local irreducible] IntKind.wrap Ah aa and or
abbrev L4:=List (O'×Int)
def pW(k:O'):L4->Option Int
 |[]=>none
 |e::m=>if k=e.1 then some e.2 else pW k m
def AAT(k:O')(v:Int):L4->L4
 |[]=>[(k,v)]
 |e::m=>if k=e.1 then(e.1,v)::m else e::AAT k v m
def GCode.apW(c:GCode)(rec:Int->List Int->L4->Int×L4)(s first:Int)(mark:List Int):Nat->Int->Int->L4->Int×L4
 |0,_,least,m=>(least,m)
 |k+1,w,least,m =>
  let bits:=(CJ c.out.toNat (c.wrd s w)).drop first.toNat
  let n:=min mark.length bits.length
  let r:=rec (c.nxt s w) (mark.drop n) m
  c.apW rec s first mark k (w+1) (min least (FI (mark.take n) bits+r.1)) r.2
def GCode.apM(c:GCode):Nat->Int->Int->List Int->L4->Int×L4
 |0,_,_,_,m=>(0,m)
 |n+1,s,first,mark,m =>
  if mark=[]then(0,m)else
  match pW (s,mark.length) m with
  |some v=>if first=0 then(v,m)else c.apW (fun s' mk m'=>c.apM n s' 0 mk m') s first mark c.W 0 16 m
  |none=>let r:=c.apW (fun s' mk m'=>c.apM n s' 0 mk m') s first mark c.W 0 16 m
   if first=0 then(r.1,AAT (s,mark.length) r.1 r.2)else r
theorem L1{xs:List Int}(h:Ap xs=true)(n:Nat):Ap (xs.take n)=true:=by
 simp only[Ap,c8]at *;exact fun x hx=>h x (List.mem_of_mem_take hx)
theorem GCode.W_eq'(c:GCode):(c.W:Int)=2^c.bits.toNat:=by simp[GCode.W]
end
section
attribute [local irreducible] IntKind.wrap Ah aa and or
def GCode.apFirst(c:GCode)(mark:List Int)(s:Int):Nat->Int->Int->L4->Int×L4
 |0,_,least,m=>(least,m)
 |k+1,f,least,m=>c.apFirst mark s k (f+1) (min least (c.apM 16 s f mark m).1) (c.apM 16 s f mark m).2
def GCode.apStates(c:GCode)(mark:List Int):Nat->Int->Int->L4->Int×L4
 |0,_,least,m=>(least,m)
 |k+1,s,least,m=>c.apStates mark k (s+1) (c.apFirst mark s c.out.toNat 0 least m).1 (c.apFirst mark s c.out.toNat 0 least m).2
def GCode.apart(c:GCode)(mark:List Int):Int:=(c.apStates mark c.words.length 0 16 []).1
theorem Se(nl:Bool)(xs:List Int):BU E0 OE [.list nl (Ad xs)] (.bool (DP xs)):=by
 refine AL S0 AR (by simp) fun e=>?_
 rw[AN];unfold MJ;refine' Fp;repeat' first|(refine' BJ;(first|refine AF (Dg _ _ _) ?_|refine AF (Jt nl xs) ?_)<;>refine' Fp)|refine' BI|done
 all_goals simp_all[DP]
end
section
attribute [local irreducible] IntKind.wrap Ah aa and or
def GCode.decW(c:GCode)(rec:Int->L4->Option (List Int)×L4)(s:Int)(own:List Int):Nat->Int->L4->Option (List Int)×L4
 |0,_,m=>(none,m)
 |n+1,w,m =>
  if own=CJ c.out.toNat (c.wrd s w)then
   match (rec (c.nxt s w) m).1 with
   |some l=>(some (w::l),(rec (c.nxt s w) m).2)
   |none=>c.decW rec s own n (w+1) (rec (c.nxt s w) m).2
  else c.decW rec s own n (w+1) m
def GCode.decM(c:GCode)(bits:List Int):Nat->Int->Int->L4->Option (List Int)×L4
 |0,_,_,m=>(some [],m)
 |k+1,s,p,m =>
  if pW (s,p) m=none then
   match (c.decW (fun s' m'=>c.decM bits k s' (p+1) m') s ((bits.drop (p*c.out).toNat).take c.out.toNat) c.W 0 m).1 with
   |some l=>(some l,(c.decW (fun s' m'=>c.decM bits k s' (p+1) m') s ((bits.drop (p*c.out).toNat).take c.out.toNat) c.W 0 m).2)
   |none=>(none,(c.decW (fun s' m'=>c.decM bits k s' (p+1) m') s ((bits.drop (p*c.out).toNat).take c.out.toNat) c.W 0 m).2++[((s,p),1)])
  else(none,m)
theorem Mc(n1 n2:Bool)(xs ys:List Int):BU E0 G4 [.list n1 (Ad xs),.list n2 (Ad ys)] (.bool (decide (xs=ys))):=by
 refine AL KH AR (by simp) fun l=>?_
 simp only[Eo,Dv,Du,Da,FE,FD,HI,FC,Bj,B0,B1,Dw,CO,List.length_map,Bq,true_and,and_true]at l;rw[AN];unfold GR
 by_cases hl:xs.length=ys.length
 ·refine' FP
  all_goals try exact BL
  refine AZ (α:=Int) (fun x=>[(13,.d (.int .i64 x))]) (fun x=>[]) (fun x=>0<=x/\x<=xs.length/\xs.take x.toNat=ys.take x.toNat) (fun x=>(xs.length-x).toNat) ?a1_0 ?hI1 ?step1
  case' step1=>(rintro i n;try dsimp only at n)
  case' hI1=>try dsimp only
  ·simp
  ·obtain⟨r,q,h⟩:=n
   by_cases hi:i<xs.length
   ·have hx:=take_get (xs:=xs) (i:=i.toNat) (by omega);have p:=take_get (xs:=ys) (i:=i.toNat) (by omega);have j:(i+1).toNat=i.toNat+1:=by omega
    by_cases o:xs[i.toNat]?.getD 0=ys[i.toNat]?.getD 0
    ·refine' FP
     all_goals(try simp (disch:=omega)only[Jb]at *)
     all_goals try exact BL
     all_goals(rw[j,hx,p,h,o])
    ·have hne:¬xs=ys:=fun e=>o (by rw[e])
     refine' FP
     all_goals try exact BL
     all_goals first|(exfalso;omega)|simp[hne]
   ·have m:xs=ys:=by
     have h1:xs.take i.toNat=xs:=cp (by omega);have h2:ys.take i.toNat=ys:=cp (by omega);rw[←h1,h,h2]
    refine' FP
    all_goals try exact BL
    all_goals simp[m]
 ·have hne:¬xs=ys:=fun e=>hl (by rw[e])
  refine' FP
  all_goals first|(exfalso;omega)|simp[hne]
def GCode.decR(c:GCode)(s:Int)(bits:List Int):Option (List Int)×Int :=
 if !c.ok then(none,40)else if !c.isState s then(none,41)
 else if !(Ap bits && decide ((bits.length:Int).tmod c.out=0) && decide ((bits.length:Int)<=c.out*24))then(none,1)
 else match (c.decM bits (bits.length/c.out.toNat) s 0 []).1 with
  |some l=>(some l,0)
  |none=>(none,3)
end
theorem de{xs:List Int}(h:Ap xs=true)(i:Nat){v:Int}(hv:Cw v 0 1=true):Ap (xs.set i v)=true:=by
 simp only[Ap,c8]at *;intro x hx;rcases List.mem_or_eq_of_mem_set hx with h1|rfl
 ·exact h x h1
 ·exact hv
theorem GCode.wrd_range(c:GCode)(h:c.ok=true){s w:Int}(hs:c.isState s=true)(e:c.isWord w=true):0<=c.wrd s w/\c.wrd s w<=2^c.out.toNat-1:=by
 have hd:=GCode.ok_head h;have i:=GCode.W_eq' c;simp only[GCode.isState,GCode.isWord,Cw,decide_eq_true_eq]at hs e;obtain⟨h1,h2⟩:=GCode.ok_words h s.toNat (by omega);refine h2 _ (D6 ?_);rw[h1];have:((2^c.bits.toNat:Nat):Int)=2^c.bits.toNat:=by simp
 omega
end Go.Pw

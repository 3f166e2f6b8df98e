/- A part of the proof. -/
import Derived.Test.YtlmkpaimjpdhiaaDoorPgCorrectBw
import Derived.Test.YtlmkpaimjpdhiaaDoorCorrectBu
set_option linter.all false
open Go Go.Pw Go.Proofs
namespace Go.Pw
set_option linter.unusedSimpArgs false
set_option linter.unusedVariables false
set_option maxRecDepth 100000
set_option maxHeartbeats 3200000
def Og (B A:List F) (a i:Nat):List F:=(List.range B.length).map fun j=>if a≤j∧j < a+i then fa (B[j]?.getD 0) (A[j - a]?.getD 0) else B[j]?.getD 0
theorem FU (B A:List F) (a i:Nat):(Og B A a i).length=B.length:=by simp [Og]
theorem Ln {B A:List F} {a i j:Nat} (h:j < B.length):(Og B A a i)[j]?.getD 0=if a≤j∧j < a+i then fa (B[j]?.getD 0) (A[j - a]?.getD 0) else B[j]?.getD 0:=by simp [Og,h]
theorem b_ (B A:List F) (a:Nat):Og B A a 0=B:=by
 apply Kn (FU ..)
 intro j hj
 rw [FU] at hj
 show (Og B A a 0)[j]?.getD 0=B[j]?.getD 0
 rw [Ln hj,if_neg (by omega)]
theorem dp {B A:List F} {a i:Nat} (h:a+i < B.length):(Og B A a i)[a+i]?.getD 0=B[a+i]?.getD 0:=by rw [Ln h,if_neg (by omega)]
theorem U9 {B A:List F} {a i:Nat} (h:a+i < B.length):(Og B A a i).set (a+i) (fa ((Og B A a i)[a+i]?.getD 0) (A[i]?.getD 0))=Og B A a (i+1):=by
 apply Kn
 ·simp [FU]
 intro j hj
 rw [List.length_set,FU] at hj
 show ((Og B A a i).set (a+i) (fa ((Og B A a i)[a+i]?.getD 0) (A[i]?.getD 0)))[j]?.getD 0=(Og B A a (i+1))[j]?.getD 0
 rw [Ln hj]
 by_cases hji:j=a+i
 ·subst hji
  rw [List.getElem?_set_self (by rw [FU];exact h),if_pos (by omega),dp h,show a+i - a=i by omega];rfl
 ·rw [List.getElem?_set_ne (fun e=>hji e.symm),Ln hj]
  by_cases hc:a≤j∧j < a+i
  ·rw [if_pos hc,if_pos (by omega)]
  ·rw [if_neg hc,if_neg (by omega)]
theorem Uu {m a n:Nat} (h:a+n≤m):UR m (List.range' a n):=by
 refine⟨List.pairwise_lt_range',fun j hj=>?_⟩
 rw [List.mem_range'_1] at hj;omega
theorem TX {m:Nat} {mk:List Nat} (h:UR m mk):Ca (ni mk) (m:Int)=true:=ME fun i hi=>by
 have hil:i < mk.length:=by simpa [ni] using hi
 unfold Vy
 rw [decide_eq_true_eq,TV,TV]
 have h1:=h.lt _ (get_mem hil)
 refine⟨by omega,by exact_mod_cast h1,fun h0=>?_⟩
 have h2:=(List.pairwise_iff_getElem.1 h.asc) (i - 1) i (by omega) hil (by omega)
 rw [List.getElem?_eq_getElem hil,List.getElem?_eq_getElem (show i - 1 < mk.length by omega)]
 exact_mod_cast h2
theorem SU {l p q a n:Nat} {d A:List F} (hl:l≤15) (hpl:p < l) (hq:0 < q) (hd:d.length=(l - p) * q) (han:a+n≤l * q) (mk:Bool)
  (hn:if mk then n≤q * p else n≤q * (p / 2)):Yd l p q (Og (S4 l p q d) A a n) (if mk then List.range' a n else [])=some d:=by
 have hBl:=NJ l p q d
 have hR:(Og (S4 l p q d) A a n).length=l * q:=by rw [FU,hBl]
 have hB:∀j k,j < l→k < q→(S4 l p q d)[j * q+k]?.getD 0=(CU p (Bf (l - p) q k d))[j]?.getD 0:=fun j k hj hk=>by
  unfold S4
  rw [OL _ (N6 hk hj),Qp hk,Qo hk]
 have hdf:∀k,k < q→∀mm j,j∈Em l (CU p (Bf (l - p) q k d)) (Bf l q k (Og (S4 l p q d) A a n)) mm→(a≤j * q+k∧j * q+k < a+n)∧j∉mm:=fun k hk mm j hj=>by
  obtain⟨h1,h2,h3⟩:=Wh hj
  refine⟨?_,h3⟩
  rw [MD j h1,Ln (by rw [hBl];exact N6 hk h1)] at h2
  by_cases hc:a≤j * q+k∧j * q+k < a+n
  ·exact hc
  ·rw [if_neg hc,hB j k h1 hk] at h2
   exact absurd rfl h2
 cases mk with
 |false =>
  simp only [Bool.false_eq_true,if_false] at hn ⊢
  refine KE hl hpl hq hd hR ⟨.nil,fun j hj=>by cases hj⟩ fun k hk=>?_
  have hnd:=Dk (H9 l (CU p (Bf (l - p) q k d)) (Bf l q k (Og (S4 l p q d) A a n)) (L0 q k [])).asc
  have:=Pj hk hn hnd fun j hj=>(hdf k hk _ j hj).1
  have h0:(L0 q k []).length=0:=rfl
  omega
 |true =>
  simp only [if_true] at hn ⊢
  have hm:=Uu (m:=l * q) (a:=a) (n:=n) han
  refine KE hl hpl hq hd hR hm fun k hk=>?_
  have h1:(Em l (CU p (Bf (l - p) q k d)) (Bf l q k (Og (S4 l p q d) A a n)) (L0 q k (List.range' a n))).length=0:=by
   rw [List.length_eq_zero_iff,List.eq_nil_iff_forall_not_mem]
   intro j hj
   obtain⟨h2,h3⟩:=hdf k hk _ j hj
   exact h3 ((Uv hk).2 (by rw [List.mem_range'_1];exact h2))
  have h2:=Pj hk hn (Dk (NN (k:=k) hq hm).asc) fun j hj=>by
   have:=(Uv hk).1 hj
   rwa [List.mem_range'_1] at this
  omega
theorem Pq {l p q:Nat} (n1:Bool) {d:List F} (hw:CJ l p q=true) (hd:d.length=(l - p) * q) :
  B7 E0 FO [.agg [.int .i64 (l:Int),.int .i64 (p:Int),.int .i64 (q:Int)],.list n1 (AY (iv d))] (.tup [.list false (AY (iv (S4 l p q d))),.int .i64 0]):=by
 have c:=GU l p q n1 (iv d)
 obtain⟨hc,h1,h2⟩:=Iv hw
 have hb:=C3 hc
 have hs:Au (iv d) ((q:Int) * ((l:Int) - (p:Int)))=true:=by
  rw [HQ,decide_eq_true_eq,hd,show ((l:Int) - (p:Int))=((l - p:Nat):Int) by omega,Nat.mul_comm];push_cast;rfl
 have hp:0 < (S4 l p q d).length:=by rw [NJ];exact Nat.mul_pos (by omega) (by omega)
 unfold bl dv at c
 rw [if_pos hw,if_pos hs,if_pos hw,if_pos hs,PT,Int.toNat_natCast,Int.toNat_natCast,Int.toNat_natCast,Bs hp] at c
 exact c
theorem c_ (mk:List Nat):nt (ni mk)=mk:=by
 unfold nt ni
 rw [List.map_map]
 exact List.map_id'' (fun x=>by simp) mk
theorem Ps {l p q:Nat} (n1 n2:Bool) {R:List F} {mk:List Nat} (hw:CJ l p q=true) (hR:R.length=l * q) (hm:UR (l * q) mk) :
  B7 E0 EC [.agg [.int .i64 (l:Int),.int .i64 (p:Int),.int .i64 (q:Int)],.list n1 (AY (iv R)),.list n2 (AY (ni mk))] (.tup [.list (iv (oL (Yd l p q R mk))).isEmpty (AY (iv (oL (Yd l p q R mk)))),.int .i64 (oE (Yd l p q R mk))]):=by
 obtain⟨hc,h1,h2⟩:=Iv hw
 have hb:=C3 hc
 have hmq:=Mk (m:=l) (q:=q) (by omega) (by omega)
 have c:=GW l p q n1 n2 (iv R) (ni mk) (by rw [DI];omega)
 have hs:Au (iv R) ((q:Int) * (l:Int))=true:=by
  rw [HQ,decide_eq_true_eq,hR,Nat.mul_comm];push_cast;rfl
 have hk:Ca (ni mk) ((iv R).length:Int)=true:=by rw [DI,hR];exact TX hm
 unfold bt dz at c
 rw [if_pos hw,if_pos hs,if_pos hk,if_pos hw,if_pos hs,if_pos hk,PT,c_,Int.toNat_natCast,Int.toNat_natCast,Int.toNat_natCast] at c
 exact c
theorem Xc (a i:Nat):List.range' a i++[a+i]=List.range' a (i+1):=by rw [List.range'_concat];simp
theorem Z5 (a i:Nat):(ni (List.range' a i)).length=i:=by simp [ni]
theorem UY {l p q:Int} (hc:BG l p=true) (h:1≤q∧q≤8):CJ l p q=true:=by unfold CJ;rw [hc,decide_eq_true h];rfl
attribute [local congr] Ch BI BJ A0 Ci A5 A7 A6 Az Ar Am Ai A2 An A3 BR BV BT BU BS BW BO Ap A4 Aq BM Bm Ao BP BQ BN BK BL
attribute [local irreducible] IntKind.wrap A_ Option.getD and or
theorem ZE {l p q a n:Nat} (n1 n2:Bool) {d A:List F} (hc:BG (l:Int) (p:Int)=true) (hq1:¬(q:Int) < 1) (hq2:¬4 < (q:Int)) (hr:QH (l:Int) (p:Int)=true) (b3:2≤l) (b4:l≤15) (b5:1≤p) (b6:p≤8) (b7:p < l)
  (hd:d.length=(l - p) * q) (hA:A.length=n) (hn2:¬100 < (n:Int)) (ha2:¬100 < (a:Int)) (hs:Au (iv d) ((q * (l - p):Nat):Int)=true) (hs2:Au (iv A) (n:Int)=true) :
  B7 E0 Cp [.agg [.int .i64 l,.int .i64 p,.int .i64 q],.agg [.list n1 (AY (iv d)),.int .i64 a,.int .i64 n,.list n2 (AY (iv A)),.bool false]] (.bool true):=by
 have c0:=CS
 have c1:=DZ l p
 rw [hr] at c1
 have c2:=Al n1 (iv d) ((q * (l - p):Nat):Int)
 rw [hs] at c2
 have c3:=Al n2 (iv A) n
 rw [hs2] at c3
 have ha1:¬(a:Int) < 0:=by omega
 have hn1:¬(n:Int) < 0:=by omega
 refine AQ BF Af (by simp) fun hwf=>?_
 rw [AR];unfold BA
 have w0:IntKind.i64.wrap ((l:Int) - (p:Int))=((l - p:Nat):Int):=by rw [AC _ (by omega)];omega
 have hqlp:q * (l - p)≤8 * 15:=Nat.mul_le_mul (by omega) (by omega)
 have hql:q * l≤8 * 15:=Nat.mul_le_mul (by omega) (by omega)
 have w1:IntKind.i64.wrap ((q:Int) * ((l - p:Nat):Int))=((q * (l - p):Nat):Int):=by rw [show (q:Int) * ((l - p:Nat):Int)=((q * (l - p):Nat):Int) by push_cast;rfl];exact AC _ (by omega)
 have w2:IntKind.i64.wrap ((q:Int) * (l:Int))=((l * q:Nat):Int):=by rw [show (q:Int) * (l:Int)=((l * q:Nat):Int) by rw [Nat.mul_comm];push_cast;rfl];rw [Nat.mul_comm] at hql;exact AC _ (by omega)
 have hwev:CJ l p q=true:=UY hc (by omega)
 have hwev2:CJ l p ((q+1:Nat):Int)=true:=UY hc (by omega)
 have k1:=C2 l p q
 have k2:=C2 l p ((q+1:Nat):Int)
 rw [hwev] at k1
 rw [hwev2] at k2
 simp only [if_true] at k1 k2
 have k3:=Pq n1 hwev hd
 have wq:IntKind.i64.wrap ((q:Int)+1)=((q+1:Nat):Int):=by rw [AC _ (by omega)];omega
 have e1:(q:Int) * ((p:Int) / 2)=((q * (p / 2):Nat):Int):=by push_cast;rfl
 have e2:(q:Int) * (p:Int)=((q * p:Nat):Int):=by push_cast;rfl
 have e3:((q+1:Nat):Int) * ((p:Int) / 2)=(((q+1) * (p / 2):Nat):Int):=by push_cast;rfl
 have e4:((q+1:Nat):Int) * (p:Int)=(((q+1) * p:Nat):Int):=by push_cast;rfl
 rw [e1,e2] at k1
 rw [e3,e4] at k2
 have hg1:q * (p / 2)≤(q+1) * (p / 2):=Nat.mul_le_mul_right _ (by omega)
 have hg2:q * p≤(q+1) * p:=Nat.mul_le_mul_right _ (by omega)
 have hBl:=NJ l p q d
 have hok:=fun h1 mk h2=>@SU l p q a n d A (by omega) (by omega) (by omega) hd h1 mk h2
 have hlq:l * q≤120:=by rw [Nat.mul_comm];exact hql
 have hlq1:0 < l * q:=Nat.mul_pos (by omega) (by omega)
 obtain⟨B,hB⟩:∃B,S4 l p q d=B:=⟨_,rfl⟩
 rw [hB] at k3 hBl
 simp only [hB] at hok
 have kG:=fun n1 n2 R mk=>@Ps l p q n1 n2 R mk hwev
 obtain⟨N,hN⟩:∃N,l * q=N:=⟨_,rfl⟩
 rw [hN] at w2 hBl hlq hlq1
 simp only [hN] at hok kG
 obtain⟨X1,hX1⟩:∃X,q * (p / 2)=X:=⟨_,rfl⟩
 obtain⟨X2,hX2⟩:∃X,q * p=X:=⟨_,rfl⟩
 obtain⟨Y1,hY1⟩:∃X,(q+1) * (p / 2)=X:=⟨_,rfl⟩
 obtain⟨Y2,hY2⟩:∃X,(q+1) * p=X:=⟨_,rfl⟩
 rw [hX1,hX2] at k1
 rw [hY1,hY2] at k2
 rw [hX1,hY1] at hg1
 rw [hX2,hY2] at hg2
 simp only [hX1,hX2] at hok
 have z1:¬(Y1:Int) < (X1:Int):=by omega
 have z2:¬(Y2:Int) < (X2:Int):=by omega
 have wan:IntKind.i64.wrap ((a:Int)+(n:Int))=((a+n:Nat):Int):=by rw [AC _ (by omega)];omega
 have hBe:¬iv B=[]:=Th (by omega)
 clear hwev hwev2 e1 e2 e3 e4 hX1 hX2 hY1 hY2 hg1 hg2 hB hN hs hs2 hqlp hql
 by_cases h1:(N:Int) < ((a+n:Nat):Int)
 ·(try (simp -implicitDefEqProofs only [go_sem,hq1,hq2,w0,w1,w2,ha1,hn1,hn2,ha2,wq,z1,z2,wan,hBl,h1]));repeat' first|(with_reducible first|exact True.intro|refine And.intro ?_ ?_|intro _)|(((with_reducible refine isCall ?_);first|refine AG (c0) rfl ?_ ?_|refine AE (c0) rfl ?_|refine AB (c0) rfl ?_ ?_|refine AF (c0) rfl rfl ?_|refine AG (c1) rfl ?_ ?_|refine AE (c1) rfl ?_|refine AB (c1) rfl ?_ ?_|refine AF (c1) rfl rfl ?_|refine AG (c2) rfl ?_ ?_|refine AE (c2) rfl ?_|refine AB (c2) rfl ?_ ?_|refine AF (c2) rfl rfl ?_|refine AG (c3) rfl ?_ ?_|refine AE (c3) rfl ?_|refine AB (c3) rfl ?_ ?_|refine AF (c3) rfl rfl ?_|refine AG (k1) rfl ?_ ?_|refine AE (k1) rfl ?_|refine AB (k1) rfl ?_ ?_|refine AF (k1) rfl rfl ?_|refine AG (k2) rfl ?_ ?_|refine AE (k2) rfl ?_|refine AB (k2) rfl ?_ ?_|refine AF (k2) rfl rfl ?_|refine AG (k3) rfl ?_ ?_|refine AE (k3) rfl ?_|refine AB (k3) rfl ?_ ?_|refine AF (k3) rfl rfl ?_)<;>try (simp -implicitDefEqProofs only [go_sem,hq1,hq2,w0,w1,w2,ha1,hn1,hn2,ha2,wq,z1,z2,wan,hBl,h1]))|(((with_reducible refine AM ?_ ?_)<;>intro _)<;>try (simp -implicitDefEqProofs only [go_sem,hq1,hq2,w0,w1,w2,ha1,hn1,hn2,ha2,wq,z1,z2,wan,hBl,h1]))|simp (disch:=omega) only [AC,AH,AK,AJ,AD,AL,AI,AA]|((with_reducible refine AW ?_);refine⟨_,rfl,?_,?_⟩)
  all_goals first|rfl|omega|(simp;done)|skip
 have han:a+n≤N:=by omega
 by_cases h2:(X1:Int) < (n:Int)
 ·(try (simp -implicitDefEqProofs only [go_sem,hq1,hq2,w0,w1,w2,ha1,hn1,hn2,ha2,wq,z1,z2,wan,hBl,h1,h2]));repeat' first|(with_reducible first|exact True.intro|refine And.intro ?_ ?_|intro _)|(((with_reducible refine isCall ?_);first|refine AG (c0) rfl ?_ ?_|refine AE (c0) rfl ?_|refine AB (c0) rfl ?_ ?_|refine AF (c0) rfl rfl ?_|refine AG (c1) rfl ?_ ?_|refine AE (c1) rfl ?_|refine AB (c1) rfl ?_ ?_|refine AF (c1) rfl rfl ?_|refine AG (c2) rfl ?_ ?_|refine AE (c2) rfl ?_|refine AB (c2) rfl ?_ ?_|refine AF (c2) rfl rfl ?_|refine AG (c3) rfl ?_ ?_|refine AE (c3) rfl ?_|refine AB (c3) rfl ?_ ?_|refine AF (c3) rfl rfl ?_|refine AG (k1) rfl ?_ ?_|refine AE (k1) rfl ?_|refine AB (k1) rfl ?_ ?_|refine AF (k1) rfl rfl ?_|refine AG (k2) rfl ?_ ?_|refine AE (k2) rfl ?_|refine AB (k2) rfl ?_ ?_|refine AF (k2) rfl rfl ?_|refine AG (k3) rfl ?_ ?_|refine AE (k3) rfl ?_|refine AB (k3) rfl ?_ ?_|refine AF (k3) rfl rfl ?_)<;>try (simp -implicitDefEqProofs only [go_sem,hq1,hq2,w0,w1,w2,ha1,hn1,hn2,ha2,wq,z1,z2,wan,hBl,h1,h2]))|(((with_reducible refine AM ?_ ?_)<;>intro _)<;>try (simp -implicitDefEqProofs only [go_sem,hq1,hq2,w0,w1,w2,ha1,hn1,hn2,ha2,wq,z1,z2,wan,hBl,h1,h2]))|simp (disch:=omega) only [AC,AH,AK,AJ,AD,AL,AI,AA]|((with_reducible refine AW ?_);refine⟨_,rfl,?_,?_⟩)
  all_goals first|rfl|omega|(simp;done)|skip
 have hga:=hok han false (by simp;omega)
 simp only [Bool.false_eq_true,if_false] at hga
 have kG1:=kG false true (Og B A a n) [] (by rw [FU];exact hBl) ⟨.nil,fun j hj=>by cases hj⟩
 rw [hga,Ew,Ev] at kG1
 have kS:=BX d.isEmpty n1 (iv d) (iv d)
 rw [decide_eq_true rfl] at kS
 have hR0:=b_ B A a
 (try (simp -implicitDefEqProofs only [go_sem,hq1,hq2,w0,w1,w2,ha1,hn1,hn2,ha2,wq,z1,z2,wan,hBl,h1,h2,hBe]));repeat' first|(with_reducible first|exact True.intro|refine And.intro ?_ ?_|intro _)|(((with_reducible refine isCall ?_);first|refine AG (c0) rfl ?_ ?_|refine AE (c0) rfl ?_|refine AB (c0) rfl ?_ ?_|refine AF (c0) rfl rfl ?_|refine AG (c1) rfl ?_ ?_|refine AE (c1) rfl ?_|refine AB (c1) rfl ?_ ?_|refine AF (c1) rfl rfl ?_|refine AG (c2) rfl ?_ ?_|refine AE (c2) rfl ?_|refine AB (c2) rfl ?_ ?_|refine AF (c2) rfl rfl ?_|refine AG (c3) rfl ?_ ?_|refine AE (c3) rfl ?_|refine AB (c3) rfl ?_ ?_|refine AF (c3) rfl rfl ?_|refine AG (k1) rfl ?_ ?_|refine AE (k1) rfl ?_|refine AB (k1) rfl ?_ ?_|refine AF (k1) rfl rfl ?_|refine AG (k2) rfl ?_ ?_|refine AE (k2) rfl ?_|refine AB (k2) rfl ?_ ?_|refine AF (k2) rfl rfl ?_|refine AG (k3) rfl ?_ ?_|refine AE (k3) rfl ?_|refine AB (k3) rfl ?_ ?_|refine AF (k3) rfl rfl ?_)<;>try (simp -implicitDefEqProofs only [go_sem,hq1,hq2,w0,w1,w2,ha1,hn1,hn2,ha2,wq,z1,z2,wan,hBl,h1,h2,hBe]))|(((with_reducible refine AM ?_ ?_)<;>intro _)<;>try (simp -implicitDefEqProofs only [go_sem,hq1,hq2,w0,w1,w2,ha1,hn1,hn2,ha2,wq,z1,z2,wan,hBl,h1,h2,hBe]))|simp (disch:=omega) only [AC,AH,AK,AJ,AD,AL,AI,AA]|((with_reducible refine AW ?_);refine⟨_,rfl,?_,?_⟩)
 all_goals first|omega|(simp;done)|(simp;omega)|skip
 rw [←hR0]
 refine AS (α:=Nat) (l0:=?l1) (m0:=?m1) (fun x=>[(16,.d (.int .i64 (x:Int)))]) (fun x=>[(165,.row 3 1 false (AY (iv (Og B A a x))))]) (fun x=>x≤n) (fun x=>n - x) 0 ?h01 ?he1 ?he21 ?hI1 ?step1
 case h01=>(simp -implicitDefEqProofs only [go_sem];rfl)
 case he1=>rfl
 case he21=>rfl
 case' step1=>(rintro i hI;try dsimp only at hI)
 case' hI1=>try dsimp only
 ·exact Nat.zero_le _
 ·by_cases hi:i < n
  ·have hi':(i:Int) < (n:Int):=by omega
   have hwi:IntKind.i64.wrap ((i:Int)+1)=((i+1:Nat):Int):=by rw [AC _ (by omega)];omega
   have hwa:IntKind.i64.wrap ((a:Int)+(i:Int))=((a+i:Nat):Int):=by rw [AC _ (by omega)];omega
   have hRl:=FU B A a i
   have hst:=@U9 B A a i (by omega)
   have hlt:a+i < N:=by omega
   have hAi:i < A.length:=by omega
   (try (simp -implicitDefEqProofs only [go_sem,hi',hi,hwi,hwa,hRl,hBl,hst,hlt,hAi]));repeat' first|(with_reducible first|exact True.intro|refine And.intro ?_ ?_|intro _)|(((with_reducible refine AM ?_ ?_)<;>intro _)<;>try (simp -implicitDefEqProofs only [go_sem,hi',hi,hwi,hwa,hRl,hBl,hst,hlt,hAi]))|simp (disch:=omega) only [AC,AH,AK,AJ,AD,AL,AI,AA]|((with_reducible refine AW ?_);refine⟨_,rfl,?_,?_⟩)
   all_goals first|omega|(simp;done)|(simp;omega)|skip
   all_goals first|rfl|skip
  ·have hi':¬(i:Int) < (n:Int):=by omega
   have hin:i=n:=by omega
   rw [hin]
   (try (simp -implicitDefEqProofs only [go_sem,Int.lt_irrefl]));repeat' first|(with_reducible first|exact True.intro|refine And.intro ?_ ?_|intro _)|(((with_reducible refine isCall ?_);first|refine AG (kG1) rfl ?_ ?_|refine AE (kG1) rfl ?_|refine AB (kG1) rfl ?_ ?_|refine AF (kG1) rfl rfl ?_|refine AG (kS) rfl ?_ ?_|refine AE (kS) rfl ?_|refine AB (kS) rfl ?_ ?_|refine AF (kS) rfl rfl ?_|refine AG (c0) rfl ?_ ?_|refine AE (c0) rfl ?_|refine AB (c0) rfl ?_ ?_|refine AF (c0) rfl rfl ?_)<;>try (simp -implicitDefEqProofs only [go_sem,Int.lt_irrefl]))|(((with_reducible refine AM ?_ ?_)<;>intro _)<;>try (simp -implicitDefEqProofs only [go_sem,Int.lt_irrefl]))|simp (disch:=omega) only [AC,AH,AK,AJ,AD,AL,AI,AA]|((with_reducible refine AW ?_);refine⟨_,rfl,?_,?_⟩)
   all_goals first|rfl|omega|(simp;done)|skip
theorem ZD {l p q a n:Nat} (n1 n2:Bool) {d A:List F} (hc:BG (l:Int) (p:Int)=true) (hq1:¬(q:Int) < 1) (hq2:¬4 < (q:Int)) (hr:QH (l:Int) (p:Int)=true) (b3:2≤l) (b4:l≤15) (b5:1≤p) (b6:p≤8) (b7:p < l)
  (hd:d.length=(l - p) * q) (hA:A.length=n) (hn2:¬100 < (n:Int)) (ha2:¬100 < (a:Int)) (hs:Au (iv d) ((q * (l - p):Nat):Int)=true) (hs2:Au (iv A) (n:Int)=true) :
  B7 E0 Cp [.agg [.int .i64 l,.int .i64 p,.int .i64 q],.agg [.list n1 (AY (iv d)),.int .i64 a,.int .i64 n,.list n2 (AY (iv A)),.bool true]] (.bool true):=by
 have c0:=CS
 have c1:=DZ l p
 rw [hr] at c1
 have c2:=Al n1 (iv d) ((q * (l - p):Nat):Int)
 rw [hs] at c2
 have c3:=Al n2 (iv A) n
 rw [hs2] at c3
 have ha1:¬(a:Int) < 0:=by omega
 have hn1:¬(n:Int) < 0:=by omega
 refine AQ BF Af (by simp) fun hwf=>?_
 rw [AR];unfold BA
 have w0:IntKind.i64.wrap ((l:Int) - (p:Int))=((l - p:Nat):Int):=by rw [AC _ (by omega)];omega
 have hqlp:q * (l - p)≤8 * 15:=Nat.mul_le_mul (by omega) (by omega)
 have hql:q * l≤8 * 15:=Nat.mul_le_mul (by omega) (by omega)
 have w1:IntKind.i64.wrap ((q:Int) * ((l - p:Nat):Int))=((q * (l - p):Nat):Int):=by rw [show (q:Int) * ((l - p:Nat):Int)=((q * (l - p):Nat):Int) by push_cast;rfl];exact AC _ (by omega)
 have w2:IntKind.i64.wrap ((q:Int) * (l:Int))=((l * q:Nat):Int):=by rw [show (q:Int) * (l:Int)=((l * q:Nat):Int) by rw [Nat.mul_comm];push_cast;rfl];rw [Nat.mul_comm] at hql;exact AC _ (by omega)
 have hwev:CJ l p q=true:=UY hc (by omega)
 have hwev2:CJ l p ((q+1:Nat):Int)=true:=UY hc (by omega)
 have k1:=C2 l p q
 have k2:=C2 l p ((q+1:Nat):Int)
 rw [hwev] at k1
 rw [hwev2] at k2
 simp only [if_true] at k1 k2
 have k3:=Pq n1 hwev hd
 have wq:IntKind.i64.wrap ((q:Int)+1)=((q+1:Nat):Int):=by rw [AC _ (by omega)];omega
 have e1:(q:Int) * ((p:Int) / 2)=((q * (p / 2):Nat):Int):=by push_cast;rfl
 have e2:(q:Int) * (p:Int)=((q * p:Nat):Int):=by push_cast;rfl
 have e3:((q+1:Nat):Int) * ((p:Int) / 2)=(((q+1) * (p / 2):Nat):Int):=by push_cast;rfl
 have e4:((q+1:Nat):Int) * (p:Int)=(((q+1) * p:Nat):Int):=by push_cast;rfl
 rw [e1,e2] at k1
 rw [e3,e4] at k2
 have hg1:q * (p / 2)≤(q+1) * (p / 2):=Nat.mul_le_mul_right _ (by omega)
 have hg2:q * p≤(q+1) * p:=Nat.mul_le_mul_right _ (by omega)
 have hBl:=NJ l p q d
 have hok:=fun h1 mk h2=>@SU l p q a n d A (by omega) (by omega) (by omega) hd h1 mk h2
 have hlq:l * q≤120:=by rw [Nat.mul_comm];exact hql
 have hlq1:0 < l * q:=Nat.mul_pos (by omega) (by omega)
 obtain⟨B,hB⟩:∃B,S4 l p q d=B:=⟨_,rfl⟩
 rw [hB] at k3 hBl
 simp only [hB] at hok
 have kG:=fun n1 n2 R mk=>@Ps l p q n1 n2 R mk hwev
 obtain⟨N,hN⟩:∃N,l * q=N:=⟨_,rfl⟩
 rw [hN] at w2 hBl hlq hlq1
 simp only [hN] at hok kG
 obtain⟨X1,hX1⟩:∃X,q * (p / 2)=X:=⟨_,rfl⟩
 obtain⟨X2,hX2⟩:∃X,q * p=X:=⟨_,rfl⟩
 obtain⟨Y1,hY1⟩:∃X,(q+1) * (p / 2)=X:=⟨_,rfl⟩
 obtain⟨Y2,hY2⟩:∃X,(q+1) * p=X:=⟨_,rfl⟩
 rw [hX1,hX2] at k1
 rw [hY1,hY2] at k2
 rw [hX1,hY1] at hg1
 rw [hX2,hY2] at hg2
 simp only [hX1,hX2] at hok
 have z1:¬(Y1:Int) < (X1:Int):=by omega
 have z2:¬(Y2:Int) < (X2:Int):=by omega
 have wan:IntKind.i64.wrap ((a:Int)+(n:Int))=((a+n:Nat):Int):=by rw [AC _ (by omega)];omega
 have hBe:¬iv B=[]:=Th (by omega)
 clear hwev hwev2 e1 e2 e3 e4 hX1 hX2 hY1 hY2 hg1 hg2 hB hN hs hs2 hqlp hql
 by_cases h1:(N:Int) < ((a+n:Nat):Int)
 ·(try (simp -implicitDefEqProofs only [go_sem,hq1,hq2,w0,w1,w2,ha1,hn1,hn2,ha2,wq,z1,z2,wan,hBl,h1]));repeat' first|(with_reducible first|exact True.intro|refine And.intro ?_ ?_|intro _)|(((with_reducible refine isCall ?_);first|refine AG (c0) rfl ?_ ?_|refine AE (c0) rfl ?_|refine AB (c0) rfl ?_ ?_|refine AF (c0) rfl rfl ?_|refine AG (c1) rfl ?_ ?_|refine AE (c1) rfl ?_|refine AB (c1) rfl ?_ ?_|refine AF (c1) rfl rfl ?_|refine AG (c2) rfl ?_ ?_|refine AE (c2) rfl ?_|refine AB (c2) rfl ?_ ?_|refine AF (c2) rfl rfl ?_|refine AG (c3) rfl ?_ ?_|refine AE (c3) rfl ?_|refine AB (c3) rfl ?_ ?_|refine AF (c3) rfl rfl ?_|refine AG (k1) rfl ?_ ?_|refine AE (k1) rfl ?_|refine AB (k1) rfl ?_ ?_|refine AF (k1) rfl rfl ?_|refine AG (k2) rfl ?_ ?_|refine AE (k2) rfl ?_|refine AB (k2) rfl ?_ ?_|refine AF (k2) rfl rfl ?_|refine AG (k3) rfl ?_ ?_|refine AE (k3) rfl ?_|refine AB (k3) rfl ?_ ?_|refine AF (k3) rfl rfl ?_)<;>try (simp -implicitDefEqProofs only [go_sem,hq1,hq2,w0,w1,w2,ha1,hn1,hn2,ha2,wq,z1,z2,wan,hBl,h1]))|(((with_reducible refine AM ?_ ?_)<;>intro _)<;>try (simp -implicitDefEqProofs only [go_sem,hq1,hq2,w0,w1,w2,ha1,hn1,hn2,ha2,wq,z1,z2,wan,hBl,h1]))|simp (disch:=omega) only [AC,AH,AK,AJ,AD,AL,AI,AA]|((with_reducible refine Aa ?_);refine⟨(_,_),rfl,?_,?_⟩)
  all_goals first|rfl|omega|(simp;done)|skip
 have han:a+n≤N:=by omega
 by_cases h2:(X2:Int) < (n:Int)
 ·(try (simp -implicitDefEqProofs only [go_sem,hq1,hq2,w0,w1,w2,ha1,hn1,hn2,ha2,wq,z1,z2,wan,hBl,h1,h2]));repeat' first|(with_reducible first|exact True.intro|refine And.intro ?_ ?_|intro _)|(((with_reducible refine isCall ?_);first|refine AG (c0) rfl ?_ ?_|refine AE (c0) rfl ?_|refine AB (c0) rfl ?_ ?_|refine AF (c0) rfl rfl ?_|refine AG (c1) rfl ?_ ?_|refine AE (c1) rfl ?_|refine AB (c1) rfl ?_ ?_|refine AF (c1) rfl rfl ?_|refine AG (c2) rfl ?_ ?_|refine AE (c2) rfl ?_|refine AB (c2) rfl ?_ ?_|refine AF (c2) rfl rfl ?_|refine AG (c3) rfl ?_ ?_|refine AE (c3) rfl ?_|refine AB (c3) rfl ?_ ?_|refine AF (c3) rfl rfl ?_|refine AG (k1) rfl ?_ ?_|refine AE (k1) rfl ?_|refine AB (k1) rfl ?_ ?_|refine AF (k1) rfl rfl ?_|refine AG (k2) rfl ?_ ?_|refine AE (k2) rfl ?_|refine AB (k2) rfl ?_ ?_|refine AF (k2) rfl rfl ?_|refine AG (k3) rfl ?_ ?_|refine AE (k3) rfl ?_|refine AB (k3) rfl ?_ ?_|refine AF (k3) rfl rfl ?_)<;>try (simp -implicitDefEqProofs only [go_sem,hq1,hq2,w0,w1,w2,ha1,hn1,hn2,ha2,wq,z1,z2,wan,hBl,h1,h2]))|(((with_reducible refine AM ?_ ?_)<;>intro _)<;>try (simp -implicitDefEqProofs only [go_sem,hq1,hq2,w0,w1,w2,ha1,hn1,hn2,ha2,wq,z1,z2,wan,hBl,h1,h2]))|simp (disch:=omega) only [AC,AH,AK,AJ,AD,AL,AI,AA]|((with_reducible refine Aa ?_);refine⟨(_,_),rfl,?_,?_⟩)
  all_goals first|rfl|omega|(simp;done)|skip
 have hga:=hok han true (by simp;omega)
 simp only [if_true] at hga
 have kG1:=kG false (decide (n=0)) (Og B A a n) (List.range' a n) (by rw [FU];exact hBl) (Uu han)
 rw [hga,Ew,Ev] at kG1
 have kS:=BX d.isEmpty n1 (iv d) (iv d)
 rw [decide_eq_true rfl] at kS
 have hR0:=b_ B A a
 (try (simp -implicitDefEqProofs only [go_sem,hq1,hq2,w0,w1,w2,ha1,hn1,hn2,ha2,wq,z1,z2,wan,hBl,h1,h2,hBe]));repeat' first|(with_reducible first|exact True.intro|refine And.intro ?_ ?_|intro _)|(((with_reducible refine isCall ?_);first|refine AG (c0) rfl ?_ ?_|refine AE (c0) rfl ?_|refine AB (c0) rfl ?_ ?_|refine AF (c0) rfl rfl ?_|refine AG (c1) rfl ?_ ?_|refine AE (c1) rfl ?_|refine AB (c1) rfl ?_ ?_|refine AF (c1) rfl rfl ?_|refine AG (c2) rfl ?_ ?_|refine AE (c2) rfl ?_|refine AB (c2) rfl ?_ ?_|refine AF (c2) rfl rfl ?_|refine AG (c3) rfl ?_ ?_|refine AE (c3) rfl ?_|refine AB (c3) rfl ?_ ?_|refine AF (c3) rfl rfl ?_|refine AG (k1) rfl ?_ ?_|refine AE (k1) rfl ?_|refine AB (k1) rfl ?_ ?_|refine AF (k1) rfl rfl ?_|refine AG (k2) rfl ?_ ?_|refine AE (k2) rfl ?_|refine AB (k2) rfl ?_ ?_|refine AF (k2) rfl rfl ?_|refine AG (k3) rfl ?_ ?_|refine AE (k3) rfl ?_|refine AB (k3) rfl ?_ ?_|refine AF (k3) rfl rfl ?_)<;>try (simp -implicitDefEqProofs only [go_sem,hq1,hq2,w0,w1,w2,ha1,hn1,hn2,ha2,wq,z1,z2,wan,hBl,h1,h2,hBe]))|(((with_reducible refine AM ?_ ?_)<;>intro _)<;>try (simp -implicitDefEqProofs only [go_sem,hq1,hq2,w0,w1,w2,ha1,hn1,hn2,ha2,wq,z1,z2,wan,hBl,h1,h2,hBe]))|simp (disch:=omega) only [AC,AH,AK,AJ,AD,AL,AI,AA]|((with_reducible refine Aa ?_);refine⟨(_,_),rfl,?_,?_⟩)
 all_goals first|omega|(simp;done)|(simp;omega)|skip
 rw [←hR0]
 refine AS (α:=Nat×Bool) (l0:=?l2) (m0:=?m2) (fun x=>[(16,.d (.int .i64 (x.1:Int)))]) (fun x=>[(165,.row 3 1 false (AY (iv (Og B A a x.1)))),(199,.row 3 1 x.2 (AY (ni (List.range' a x.1))))]) (fun x=>x.1≤n∧x.2=decide (x.1=0)) (fun x=>n - x.1) (0,true) ?h02 ?he2 ?he22 ?hI2 ?step2
 case h02=>(simp -implicitDefEqProofs only [go_sem];rfl)
 case he2=>rfl
 case he22=>rfl
 case' step2=>(rintro⟨i,e⟩ hI;try dsimp only at hI)
 case' hI2=>try dsimp only
 ·exact⟨Nat.zero_le _,rfl⟩
 ·obtain⟨i1,i2⟩:=hI
  change e=decide (i=0) at i2
  subst i2
  by_cases hi:i < n
  ·have hi':(i:Int) < (n:Int):=by omega
   have hwi:IntKind.i64.wrap ((i:Int)+1)=((i+1:Nat):Int):=by rw [AC _ (by omega)];omega
   have hwa:IntKind.i64.wrap ((a:Int)+(i:Int))=((a+i:Nat):Int):=by rw [AC _ (by omega)];omega
   have hRl:=FU B A a i
   have hst:=@U9 B A a i (by omega)
   have hlt:a+i < N:=by omega
   have hAi:i < A.length:=by omega
   have hrs:=Xc a i
   have hrl:=Z5 a i
   have hfe:false=decide (i+1=0):=(decide_eq_false (by omega)).symm
   obtain⟨s,hs⟩:∃s,a+i=s:=⟨_,rfl⟩
   rw [hs] at hwa hst hlt hrs
   (try (simp -implicitDefEqProofs only [go_sem,hi',hi,hwi,hwa,hRl,hBl,hst,hlt,hAi,hrs,hrl]));repeat' first|(with_reducible first|exact True.intro|refine And.intro ?_ ?_|intro _)|(((with_reducible refine AM ?_ ?_)<;>intro _)<;>try (simp -implicitDefEqProofs only [go_sem,hi',hi,hwi,hwa,hRl,hBl,hst,hlt,hAi,hrs,hrl]))|simp (disch:=omega) only [AC,AH,AK,AJ,AD,AL,AI,AA]|((with_reducible refine Aa ?_);refine⟨(_,_),rfl,?_,?_⟩)
   all_goals first|omega|(simp;done)|(simp;omega)|skip
   all_goals first|exact hfe|rfl|skip
  ·have hi':¬(i:Int) < (n:Int):=by omega
   have hin:i=n:=by omega
   rw [hin]
   (try (simp -implicitDefEqProofs only [go_sem,Int.lt_irrefl]));repeat' first|(with_reducible first|exact True.intro|refine And.intro ?_ ?_|intro _)|(((with_reducible refine isCall ?_);first|refine AG (kG1) rfl ?_ ?_|refine AE (kG1) rfl ?_|refine AB (kG1) rfl ?_ ?_|refine AF (kG1) rfl rfl ?_|refine AG (kS) rfl ?_ ?_|refine AE (kS) rfl ?_|refine AB (kS) rfl ?_ ?_|refine AF (kS) rfl rfl ?_|refine AG (c0) rfl ?_ ?_|refine AE (c0) rfl ?_|refine AB (c0) rfl ?_ ?_|refine AF (c0) rfl rfl ?_)<;>try (simp -implicitDefEqProofs only [go_sem,Int.lt_irrefl]))|(((with_reducible refine AM ?_ ?_)<;>intro _)<;>try (simp -implicitDefEqProofs only [go_sem,Int.lt_irrefl]))|simp (disch:=omega) only [AC,AH,AK,AJ,AD,AL,AI,AA]|((with_reducible refine Aa ?_);refine⟨(_,_),rfl,?_,?_⟩)
   all_goals first|rfl|omega|(simp;done)|skip
theorem Ly (L P Q a n:Int) (n1 n2 mk:Bool) (d A:List Int):B7 E0 Cp [.agg [.int .i64 L,.int .i64 P,.int .i64 Q],.agg [.list n1 (AY d),.int .i64 a,.int .i64 n,.list n2 (AY A),.bool mk]] (.bool true):=by
 have c0:=CS
 have c1:=DZ L P
 cases hr:QH L P with
 |false =>
  rw [hr] at c1
  refine AQ BF Af (by simp) fun hwf=>?_
  rw [AR];unfold BA
  (try (simp -implicitDefEqProofs only [go_sem]));repeat' first|(with_reducible first|exact True.intro|refine And.intro ?_ ?_|intro _)|(((with_reducible refine isCall ?_);first|refine AG (c0) rfl ?_ ?_|refine AE (c0) rfl ?_|refine AB (c0) rfl ?_ ?_|refine AF (c0) rfl rfl ?_|refine AG (c1) rfl ?_ ?_|refine AE (c1) rfl ?_|refine AB (c1) rfl ?_ ?_|refine AF (c1) rfl rfl ?_)<;>try (simp -implicitDefEqProofs only [go_sem]))|(((with_reducible refine AM ?_ ?_)<;>intro _)<;>try (simp -implicitDefEqProofs only [go_sem]))|simp (disch:=omega) only [AC,AH,AK,AJ,AD,AL,AI,AA]
  all_goals first|rfl|omega|(simp;done)|skip
 |true =>
  rw [hr] at c1
  obtain⟨hc,b1,b2⟩:=QG hr
  obtain⟨l,p,rfl,rfl,b3,b4,b5,b6,b7⟩:=Dj hc
  by_cases hq1:Q < 1∨4 < Q
  ·refine AQ BF Af (by simp) fun hwf=>?_
   rw [AR];unfold BA
   (try (simp -implicitDefEqProofs only [go_sem]));repeat' first|(with_reducible first|exact True.intro|refine And.intro ?_ ?_|intro _)|(((with_reducible refine isCall ?_);first|refine AG (c0) rfl ?_ ?_|refine AE (c0) rfl ?_|refine AB (c0) rfl ?_ ?_|refine AF (c0) rfl rfl ?_|refine AG (c1) rfl ?_ ?_|refine AE (c1) rfl ?_|refine AB (c1) rfl ?_ ?_|refine AF (c1) rfl rfl ?_)<;>try (simp -implicitDefEqProofs only [go_sem]))|(((with_reducible refine AM ?_ ?_)<;>intro _)<;>try (simp -implicitDefEqProofs only [go_sem]))|simp (disch:=omega) only [AC,AH,AK,AJ,AD,AL,AI,AA]
   all_goals first|rfl|omega|(simp;done)|skip
  replace hq1:¬Q < 1∧¬4 < Q:=by omega
  obtain⟨hq1,hq2⟩:=hq1
  obtain⟨q,rfl⟩:∃q:Nat,Q=(q:Int):=⟨Q.toNat,by omega⟩
  have w0:IntKind.i64.wrap ((l:Int) - (p:Int))=((l - p:Nat):Int):=by rw [AC _ (by omega)];omega
  have hqlp:q * (l - p)≤8 * 15:=Nat.mul_le_mul (by omega) (by omega)
  have hql:q * l≤8 * 15:=Nat.mul_le_mul (by omega) (by omega)
  have w1:IntKind.i64.wrap ((q:Int) * ((l - p:Nat):Int))=((q * (l - p):Nat):Int):=by rw [show (q:Int) * ((l - p:Nat):Int)=((q * (l - p):Nat):Int) by push_cast;rfl];exact AC _ (by omega)
  have w2:IntKind.i64.wrap ((q:Int) * (l:Int))=((l * q:Nat):Int):=by rw [show (q:Int) * (l:Int)=((l * q:Nat):Int) by rw [Nat.mul_comm];push_cast;rfl];rw [Nat.mul_comm] at hql;exact AC _ (by omega)
  have c2:=Al n1 d ((q * (l - p):Nat):Int)
  cases hs:Au d ((q * (l - p):Nat):Int) with
  |false =>
   rw [hs] at c2
   refine AQ BF Af (by simp) fun hwf=>?_
   rw [AR];unfold BA
   (try (simp -implicitDefEqProofs only [go_sem,hq1,hq2,w0,w1]));repeat' first|(with_reducible first|exact True.intro|refine And.intro ?_ ?_|intro _)|(((with_reducible refine isCall ?_);first|refine AG (c0) rfl ?_ ?_|refine AE (c0) rfl ?_|refine AB (c0) rfl ?_ ?_|refine AF (c0) rfl rfl ?_|refine AG (c1) rfl ?_ ?_|refine AE (c1) rfl ?_|refine AB (c1) rfl ?_ ?_|refine AF (c1) rfl rfl ?_|refine AG (c2) rfl ?_ ?_|refine AE (c2) rfl ?_|refine AB (c2) rfl ?_ ?_|refine AF (c2) rfl rfl ?_)<;>try (simp -implicitDefEqProofs only [go_sem,hq1,hq2,w0,w1]))|(((with_reducible refine AM ?_ ?_)<;>intro _)<;>try (simp -implicitDefEqProofs only [go_sem,hq1,hq2,w0,w1]))|simp (disch:=omega) only [AC,AH,AK,AJ,AD,AL,AI,AA]
   all_goals first|rfl|omega|(simp;done)|skip
  |true =>
   rw [hs] at c2
   by_cases hbd:a < 0∨n < 0∨100 < n∨100 < a
   ·refine AQ BF Af (by simp) fun hwf=>?_
    rw [AR];unfold BA
    (try (simp -implicitDefEqProofs only [go_sem,hq1,hq2,w0,w1]));repeat' first|(with_reducible first|exact True.intro|refine And.intro ?_ ?_|intro _)|(((with_reducible refine isCall ?_);first|refine AG (c0) rfl ?_ ?_|refine AE (c0) rfl ?_|refine AB (c0) rfl ?_ ?_|refine AF (c0) rfl rfl ?_|refine AG (c1) rfl ?_ ?_|refine AE (c1) rfl ?_|refine AB (c1) rfl ?_ ?_|refine AF (c1) rfl rfl ?_|refine AG (c2) rfl ?_ ?_|refine AE (c2) rfl ?_|refine AB (c2) rfl ?_ ?_|refine AF (c2) rfl rfl ?_)<;>try (simp -implicitDefEqProofs only [go_sem,hq1,hq2,w0,w1]))|(((with_reducible refine AM ?_ ?_)<;>intro _)<;>try (simp -implicitDefEqProofs only [go_sem,hq1,hq2,w0,w1]))|simp (disch:=omega) only [AC,AH,AK,AJ,AD,AL,AI,AA]
    all_goals first|rfl|omega|(simp;done)|skip
   replace hbd:¬a < 0∧¬n < 0∧¬100 < n∧¬100 < a:=by omega
   obtain⟨ha1,hn1,hn2,ha2⟩:=hbd
   have c3:=Al n2 A n
   cases hs2:Au A n with
   |false =>
    rw [hs2] at c3
    refine AQ BF Af (by simp) fun hwf=>?_
    rw [AR];unfold BA
    (try (simp -implicitDefEqProofs only [go_sem,hq1,hq2,w0,w1,ha1,hn1,hn2,ha2]));repeat' first|(with_reducible first|exact True.intro|refine And.intro ?_ ?_|intro _)|(((with_reducible refine isCall ?_);first|refine AG (c0) rfl ?_ ?_|refine AE (c0) rfl ?_|refine AB (c0) rfl ?_ ?_|refine AF (c0) rfl rfl ?_|refine AG (c1) rfl ?_ ?_|refine AE (c1) rfl ?_|refine AB (c1) rfl ?_ ?_|refine AF (c1) rfl rfl ?_|refine AG (c2) rfl ?_ ?_|refine AE (c2) rfl ?_|refine AB (c2) rfl ?_ ?_|refine AF (c2) rfl rfl ?_|refine AG (c3) rfl ?_ ?_|refine AE (c3) rfl ?_|refine AB (c3) rfl ?_ ?_|refine AF (c3) rfl rfl ?_)<;>try (simp -implicitDefEqProofs only [go_sem,hq1,hq2,w0,w1,ha1,hn1,hn2,ha2]))|(((with_reducible refine AM ?_ ?_)<;>intro _)<;>try (simp -implicitDefEqProofs only [go_sem,hq1,hq2,w0,w1,ha1,hn1,hn2,ha2]))|simp (disch:=omega) only [AC,AH,AK,AJ,AD,AL,AI,AA]
    all_goals first|rfl|omega|(simp;done)|skip
   |true =>
    rw [hs2] at c3
    obtain⟨a,rfl⟩:∃q:Nat,a=(q:Int):=⟨a.toNat,by omega⟩
    obtain⟨n,rfl⟩:∃q:Nat,n=(q:Int):=⟨n.toNat,by omega⟩
    obtain⟨hl1,hf1⟩:=DC hs
    obtain⟨hl2,hf2⟩:=DC hs2
    obtain⟨d,rfl⟩:∃d',iv d'=d:=⟨_,hf1⟩
    obtain⟨A,rfl⟩:∃d',iv d'=A:=⟨_,hf2⟩
    rw [DI] at hl1 hl2
    have hd:d.length=(l - p) * q:=by rw [Nat.mul_comm];omega
    have hA:A.length=n:=by omega
    cases mk with
    |false=>exact ZE n1 n2 hc hq1 hq2 hr (by omega) (by omega) (by omega) (by omega) (by omega) hd hA hn2 ha2 hs hs2
    |true=>exact ZD n1 n2 hc hq1 hq2 hr (by omega) (by omega) (by omega) (by omega) (by omega) hd hA hn2 ha2 hs hs2
end Go.Pw

/- A part of the proof. -/
import Derived.Test.YtpcpcjbbdgmohaaDoorPgTwrN
set_option linter.all false
open Go Go.Pw
namespace Go.Pw
def EW (f:Nat->Nat) (q:Nat):Nat->Nat->Nat
 |0,_=>0
 |i+1,k=>EW f q i k+if i%q=k then f i else 0
def Nt (f:Nat->Nat) (q:Nat):Nat->Nat->Nat
 |0,_=>0
 |m+1,k=>Nt f q m k+f (m*q+k)
theorem Sc (f:Nat->Nat) {q k:Nat}(hk:k<q) (m:Nat):∀t,t<=q->EW f q (m*q+t) k=EW f q (m*q) k+if k<t then f (m*q+k) else 0
 |0,_=>by simp
 |t+1,h=>by
  have ih:=Sc f hk m t (by omega)
  show EW f q (m*q+t) k+(if (m*q+t)%q=k then f (m*q+t) else 0)=_
  rw[ih,Qq (show t<q by omega)]
  by_cases h1:t=k
  ·subst h1
   rw[if_pos rfl,if_neg (by omega),if_pos (by omega)];omega
  ·rw[if_neg h1]
   by_cases h2:k<t
   ·rw[if_pos h2,if_pos (by omega)];rfl
   ·rw[if_neg h2,if_neg (by omega)]
theorem Q0 (f:Nat->Nat) {q k:Nat}(hk:k<q):∀m,EW f q (m*q) k=Nt f q m k
 |0=>by rw[Nat.zero_mul];rfl
 |m+1=>by
  rw[Nat.add_mul,Nat.one_mul,Sc f hk m q (Nat.le_refl q),if_pos hk,Q0 f hk m];rfl
theorem aM {f g h:Nat->Nat}{q m k:Nat}(hk:k<q) (e:∀i,i<m*q->f i=2*g i+h i):Nt f q m k=2*Nt g q m k+Nt h q m k:=by
 induction m with
 |zero=>rfl
 |succ m ih =>
  have h1:=ih fun i hi=>e i (by rw[Nat.add_mul];omega)
  have h2:=e (m*q+k) (Pt hk (by omega))
  show Nt f q m k+f (m*q+k)=2*(Nt g q m k+g (m*q+k))+(Nt h q m k+h (m*q+k))
  omega
theorem Uv (mB:Nat->Bool) {q:Nat}(k:Nat):∀i,(NO q k ((List.range i).filter mB)).length=EW (fun i=>if mB i then 1 else 0) q i k
 |0=>rfl
 |i+1=>by
  have ih:=Uv mB (q:=q) k i
  rw[List.range_succ,List.filter_append]
  show _=EW _ q i k+if i%q=k then (if mB i then 1 else 0) else 0
  rw[←ih]
  cases hm:mB i with
  |false=>simp[hm]
  |true =>
   simp only[List.filter_cons,hm,if_true,List.filter_nil]
   rw[R6]
   by_cases h:i%q=k
   ·rw[if_pos h,if_pos h];simp
   ·rw[if_neg h,if_neg h];rfl
theorem bp {l q k:Nat}(hk:k<q) {a R:List F}{W:Nat->List F}{mB wB:Nat->Bool}(hw:∀j,j<l->(W k)[j]?.getD 0≠R[j*q+k]?.getD 0->mB (j*q+k)=false->wB (j*q+k)=true) :
  (PA l (W k) (C3 l q k R) (NO q k ((List.range (l*q)).filter mB))).length<=Nt (fun i=>if wB i then 1 else 0) q l k:=by
 have hmk:∀j,j<l->(j∈NO q k ((List.range (l*q)).filter mB)↔mB (j*q+k)=true):=fun j hj=>by
  rw[av hk,List.mem_filter,List.mem_range]
  exact⟨fun h=>h.2,fun h=>⟨Pt hk hj,h⟩⟩
 have hg:∀j,j<l->(C3 l q k R)[j]?.getD 0=R[j*q+k]?.getD 0:=fun j hj=>ML j hj
 generalize NO q k ((List.range (l*q)).filter mB)=mk at *
 generalize C3 l q k R=b at *
 unfold PA
 have:∀m,m<=l->((List.range m).filter fun j=>decide ((W k)[j]?.getD 0≠b[j]?.getD 0) && !mk.contains j).length<=Nt (fun i=>if wB i then 1 else 0) q m k:=by
  intro m
  induction m with
  |zero=>intro _;exact Nat.le_refl 0
  |succ m ih =>
   intro hm
   have i1:=ih (by omega)
   rw[List.range_succ,List.filter_append,List.length_append]
   show _<=Nt (fun i=>if wB i then 1 else 0) q m k+(if wB (m*q+k) then 1 else 0)
   refine Nat.add_le_add i1 ?_
   by_cases hc:(decide ((W k)[m]?.getD 0≠b[m]?.getD 0) && !mk.contains m)=true
   ·have hc2:=hc
    simp only[Bool.and_eq_true,decide_eq_true_eq,Bool.not_eq_true',List.contains_eq_mem,decide_eq_false_iff_not] at hc2
    have h3:mB (m*q+k)=false:=by
     cases h:mB (m*q+k) with
     |false=>rfl
     |true=>exact absurd ((hmk m (by omega)).2 h) hc2.2
    have h4:=hw m (by omega) (by rw[←hg m (by omega)];exact hc2.1) h3
    rw[h4]
    simp only[List.filter_cons,hc,if_true,List.filter_nil]
    exact Nat.le_refl 1
   ·simp only[List.filter_cons,hc,List.filter_nil]
    exact Nat.zero_le _
 exact this l (Nat.le_refl l)
theorem N3 (mB:Nat->Bool) (n:Nat):Zl n ((List.range n).filter mB) :=
 ⟨List.Pairwise.filter _ List.pairwise_lt_range,fun j hj=>by simpa using (List.mem_filter.1 hj).1⟩
theorem O7 {l p q:Nat}(hl:l<=15) (hpl:p<l) (hq:0<q) {d R:List F}(hd:d.length=(l-p)*q) (hR:R.length=l*q) {mB wB:Nat->Bool}
  (hw:∀i,i<l*q->(XQ l p q d)[i]?.getD 0≠R[i]?.getD 0->mB i=false->wB i=true) {fC:Nat->Nat}(hf:∀i,i<l*q->fC i=if mB i then 1 else if wB i then 2 else 0)
  (hk:∀k,k<q->EW fC q (l*q) k<=p):cY l p q R ((List.range (l*q)).filter mB)=some d:=by
 refine O2 hl hpl hq hd hR (N3 mB _) fun k hkq=>?_
 have h1:=hk k hkq
 rw[Q0 fC hkq] at h1
 rw[aM (g:=fun i=>if wB i && !mB i then 1 else 0) (h:=fun i=>if mB i then 1 else 0) hkq fun i hi=>by
  rw[hf i hi]
  cases mB i<;>cases wB i<;>rfl] at h1
 rw[Uv mB k,Q0 _ hkq]
 have h2:=bp (a:=[]) (wB:=fun i=>wB i && !mB i) (mB:=mB) (R:=R) (W:=fun k=>GN p (C3 (l-p) q k d)) (l:=l) hkq fun j hj hne hm=>by
  have hlt:=Pt hkq hj
  have h3:(XQ l p q d)[j*q+k]?.getD 0=(GN p (C3 (l-p) q k d))[j]?.getD 0:=by
   unfold XQ
   rw[OZ _ hlt,UO hkq,Qq hkq]
  rw[hw (j*q+k) hlt (by rw[h3];exact hne) hm,hm];rfl
 omega
end Go.Pw

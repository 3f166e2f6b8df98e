/- A part of the proof. -/
import Derived.Test.YtlmkpaimjpdhiaaDoorCorrectLin
set_option linter.all false
namespace Go.Pw
set_option linter.unusedSimpArgs false
set_option linter.unusedVariables false
def OB (v w:List F):List F:=List.zipWith fa v w
theorem ZE (v w:List F) (h:v.length=w.length):(OB v w).length=v.length:=by simp [OB,h]
theorem Y8 (v w:List F) (j:Nat) (h:v.length=w.length):DZ (OB v w) j=fa (DZ v j) (DZ w j):=by
 unfold DZ OB
 rw [List.getElem?_zipWith]
 by_cases hj:j < v.length
 ·rw [List.getElem?_eq_getElem hj,List.getElem?_eq_getElem (by omega)];rfl
 ·rw [List.getElem?_eq_none (by omega),List.getElem?_eq_none (l:=w) (by omega)];rfl
theorem R9:∀(r v w:List F),v.length=w.length→EI r (OB v w)=fa (EI r v) (EI r w)
 |[],v,w,_=>by simp [Jh,CK]
 |x :: r,[],[],_=>by simp [OB,Np,CK]
 |x :: r,a :: v,b :: w,h=>by
  have ih:=R9 r v w (by simpa using h)
  simp only [OB,List.zipWith_cons_cons,DG] at ih ⊢
  rw [ih,J_,fB]
theorem KZ {v w:List F} (hl:v.length=w.length) (h:∀j,j < v.length→DZ v j=DZ w j):v=w:=by
 apply List.ext_getElem hl
 intro j h1 h2
 have:=h j h1
 unfold DZ at this
 rwa [List.getElem?_eq_getElem h1,List.getElem?_eq_getElem h2] at this
def QJ (x:F):Nat→F
 |0=>1
 |n+1=>fm x (QJ x n)
theorem c9 (t i:Nat):gp (i * t)=QJ (gp t) i:=by
 induction i with
 |zero=>rw [Nat.zero_mul];exact QF
 |succ i ih=>rw [Nat.add_mul,Nat.one_mul,Nat.add_comm,QI,ih];rfl
theorem dm:∀(xs vs:List F),vs.length=xs.length→xs.Nodup→(∀i,i < xs.length→EI (xs.map fun x=>QJ x i) vs=0)→∀j,DZ vs j=0
 |[],[],_,_,_=>fun j=>rfl
 |x :: xs,v :: vs,hl,hn,h=>by
  have hl':vs.length=xs.length:=by simpa using hl
  rw [List.nodup_cons] at hn
  have key:∀(i:Nat) (ys ws:List F),ws.length=ys.length→EI (ys.map fun y=>QJ y i) (List.zipWith (fun y w=>fm w (fa y x)) ys ws)=fa (EI (ys.map fun y=>QJ y (i+1)) ws) (fm x (EI (ys.map fun y=>QJ y i) ws)):=by
   intro i ys
   induction ys with
   |nil=>intro ws _;rw [List.map_nil,Jh,List.map_nil,Jh,Cw];rfl
   |cons y ys ih =>
    intro ws hw
    cases ws with
    |nil=>simp at hw
    |cons w ws =>
     have:=ih ws (by simpa using hw)
     simp only [List.map_cons,List.zipWith_cons_cons,DG]
     rw [this,J_ w,J_ (QJ y i),J_ x,fB]
     congr 1
     ·congr 1
      show fm (QJ y i) (fm w y)=fm (fm y (QJ y i)) w
      rw [Cl w y,←Ez,Cl (QJ y i) y]
     ·congr 1
      rw [LJ,Cl,Ez]
      rw [LJ]
  have hz:∀i,i < xs.length→EI (xs.map fun y=>QJ y i) (List.zipWith (fun y w=>fm w (fa y x)) xs vs)=0:=fun i hi=>by
   rw [key i xs vs hl']
   have h1:=h i (by simp;omega)
   have h2:=h (i+1) (by simpa using hi)
   simp only [List.map_cons,DG] at h1 h2
   have e1:EI (xs.map fun y=>QJ y i) vs=fm (QJ x i) v:=(GH _ _ h1).symm
   have e2:EI (xs.map fun y=>QJ y (i+1)) vs=fm (QJ x (i+1)) v:=(GH _ _ h2).symm
   rw [e1,e2,←Ez]
   exact E1 _
  have ih:=dm xs (List.zipWith (fun y w=>fm w (fa y x)) xs vs) (by simp [hl']) hn.2 hz
  have htail:∀j,DZ vs j=0:=fun j=>by
   by_cases hj:j < xs.length
   ·have:=ih j
    unfold DZ at this ⊢
    rw [List.getElem?_zipWith,List.getElem?_eq_getElem hj,List.getElem?_eq_getElem (by omega)] at this
    rw [List.getElem?_eq_getElem (by omega)]
    have hne:fa xs[j] x≠0:=fun e=>hn.1 (by rw [←GH _ _ e];exact List.getElem_mem hj)
    exact(Ni _ _ this).resolve_right hne
   ·exact Qj _ _ (by omega)
  have hhead:v=0:=by
   have h0:=h 0 (by simp)
   simp only [List.map_cons,DG] at h0
   have:EI (xs.map fun y=>QJ y 0) vs=0:=by
    have hvs:vs=List.replicate vs.length 0:=by
     apply KZ (by simp)
     intro j hj
     rw [htail j]
     simp [DZ,hj]
    rw [hvs]
    generalize xs.map (fun y=>QJ y 0)=zs
    generalize vs.length=n
    induction zs generalizing n with
    |nil=>rfl
    |cons z zs ih2 =>
     cases n with
     |zero=>rfl
     |succ n=>rw [List.replicate_succ,DG,Cw,ih2];rfl
   rw [this,CK] at h0
   rw [show QJ x 0=1 from rfl,P7] at h0
   exact h0
  intro j
  cases j with
  |zero=>exact hhead
  |succ j=>exact htail j
def Qy (L i j:Nat):F:=gp (i * (L - 1 - j))
def Ig (L P:Nat) (at_:List Nat) (s:List F):List (List F):=(List.range P).map fun i=>(at_.map fun j=>Qy L i j)++[DZ s i]
theorem Jg (L P:Nat) (at_:List Nat) (s:List F):NF (Ig L P at_ s) P (at_.length+1):=by
 refine⟨by simp [Ig],fun i hi=>?_⟩
 unfold Ig
 rw [KT (α:=F) _ _ _ hi];simp
theorem NS (L P:Nat) (at_:List Nat) (s:List F) (i:Nat) (h:i < P):Ab (Ig L P at_ s) i=(at_.map fun j=>Qy L i j)++[DZ s i]:=KT (α:=F) _ _ _ h
structure Qz (L:Nat) (at_:List Nat):Prop where
 nd:at_.Nodup
 lt:∀j,j∈at_→j < L
theorem QY (L P:Nat) (at_:List Nat) (s v:List F) (c:F) (hv:v.length=at_.length) (i:Nat) (h:i < P):EI (Ab (Ig L P at_ s) i) (v++[c])=fa (EI (at_.map fun j=>Qy L i j) v) (fm (DZ s i) c):=by
 rw [NS _ _ _ _ _ h,Nn _ _ _ _ (by simp [hv])]
theorem Rm {L P:Nat} (hL:L≤15) {at_:List Nat} (hp:Qz L at_) (hm:at_.length≤P) {s v:List F} (hv:v.length=at_.length) (h:Mx 0 (Ig L P at_ s) v):∀j,DZ v j=0:=by
 have hx:(at_.map fun j=>gp (L - 1 - j)).Nodup:=by
  have h1:=hp.nd
  have h2:=hp.lt
  clear h hv hm
  induction at_ with
  |nil=>simp
  |cons a l ih =>
   rw [List.nodup_cons] at h1
   rw [List.map_cons,List.nodup_cons]
   refine⟨fun hmem=>?_,ih ⟨h1.2,fun j hj=>h2 j (by simp [hj])⟩ h1.2 fun j hj=>h2 j (by simp [hj])⟩
   obtain⟨b,hb,he⟩:=List.mem_map.1 hmem
   have ha:=h2 a (by simp)
   have hb2:=h2 b (by simp [hb])
   have:=c_ (by omega) (by omega) he
   have:a=b:=by omega
   subst this
   exact h1.1 hb
 refine dm _ v (by simp [hv]) hx fun i hi=>?_
 have hi':i < P:=by simp at hi;omega
 have:=h i (by rw [(Jg L P at_ s).len];exact hi')
 rw [QY _ _ _ _ _ _ hv i hi',Cw,CK] at this
 rw [List.map_map]
 have e:(at_.map ((fun x=>QJ x i) ∘ fun j=>gp (L - 1 - j)))=at_.map fun j=>Qy L i j:=List.map_congr_left fun j _=>(c9 _ _).symm
 rw [e];exact this
theorem Zq {c d:F} {M:List (List F)} {v w:List F} (hl:v.length=w.length) (h1:Mx c M v) (h2:Mx d M w):Mx (fa c d) M (OB v w):=by
 intro i hi
 have:OB v w++[fa c d]=OB (v++[c]) (w++[d]):=by
  unfold OB
  rw [List.zipWith_append hl];rfl
 rw [this,R9 _ _ _ (by simp [hl]),h1 i hi,h2 i hi,CK]
theorem XL {L P:Nat} (hL:L≤15) {at_:List Nat} (hp:Qz L at_) (hm:at_.length≤P) {s v w:List F} (hv:v.length=at_.length) (hw:w.length=at_.length) (h1:Mx 1 (Ig L P at_ s) v) (h2:Mx 1 (Ig L P at_ s) w):v=w:=by
 have h:=Zq (by omega) h1 h2
 rw [E1] at h
 have:=Rm hL hp hm (by rw [ZE _ _ (by omega)];exact hv) h
 refine KZ (by omega) fun j _=>?_
 have hj:=this j
 rw [Y8 _ _ _ (by omega)] at hj
 exact GH _ _ hj
open Classical in
noncomputable def Fu (L P:Nat) (at_:List Nat) (s:List F):Option (List F) :=
 if h:∃v:List F,v.length=at_.length∧Mx 1 (Ig L P at_ s) v then some h.choose else none
theorem JZ {L P:Nat} (hL:L≤15) {at_:List Nat} (hp:Qz L at_) (hm:at_.length≤P) {s v:List F} (hv:v.length=at_.length) (h:Mx 1 (Ig L P at_ s) v):Fu L P at_ s=some v:=by
 have hex:∃v:List F,v.length=at_.length∧Mx 1 (Ig L P at_ s) v:=⟨v,hv,h⟩
 unfold Fu
 rw [dif_pos hex]
 congr 1
 exact XL hL hp hm hex.choose_spec.1 hv hex.choose_spec.2 h
theorem VF {L P:Nat} {at_:List Nat} {s:List F} (h:∀v:List F,v.length=at_.length→¬Mx 1 (Ig L P at_ s) v):Fu L P at_ s=none:=by
 unfold Fu
 rw [dif_neg fun⟨v,h1,h2⟩=>h v h1 h2]
theorem FJ {L P:Nat} {at_:List Nat} {s v:List F} (h:Fu L P at_ s=some v):v.length=at_.length∧Mx 1 (Ig L P at_ s) v:=by
 unfold Fu at h
 split at h
 ·rename_i hex
  simp only [Option.some.injEq] at h
  rw [←h];exact hex.choose_spec
 ·cases h
end Go.Pw

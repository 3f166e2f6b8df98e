/- A part of the proof. -/
import Derived.Test.YtlmkpaimjpdhiaaDoorCorrectLin
set_option linter.all false
namespace Go.Pw
set_option linter.unusedSimpArgs false
set_option linter.unusedVariables false
def OU (v w:List F):List F:=List.zipWith fa v w
theorem ZS (v w:List F) (h:v.length=w.length):(OU v w).length=v.length:=by simp [OU,h]
theorem ZK (v w:List F) (j:Nat) (h:v.length=w.length):Dd (OU v w) j=fa (Dd v j) (Dd w j):=by
 unfold Dd OU
 rw [List.getElem?_zipWith]
 by_cases hj:j < v.length
 ·rw [List.getElem?_eq_getElem hj,List.getElem?_eq_getElem (by omega)];rfl
 ·rw [List.getElem?_eq_none (by omega),List.getElem?_eq_none (l:=w) (by omega)];rfl
theorem SM:∀(r v w:List F),v.length=w.length→EK r (OU v w)=fa (EK r v) (EK r w)
 |[],v,w,_=>by simp [Js,CM]
 |x :: r,[],[],_=>by simp [OU,N5,CM]
 |x :: r,a :: v,b :: w,h=>by
  have ih:=SM r v w (by simpa using h)
  simp only [OU,List.zipWith_cons_cons,DJ] at ih ⊢
  rw [ih,KK,fP]
theorem Kn {v w:List F} (hl:v.length=w.length) (h:∀j,j < v.length→Dd v j=Dd w j):v=w:=by
 apply List.ext_getElem hl
 intro j h1 h2
 have:=h j h1
 unfold Dd at this
 rwa [List.getElem?_eq_getElem h1,List.getElem?_eq_getElem h2] at this
def QY (x:F):Nat→F
 |0=>1
 |n+1=>fm x (QY x n)
theorem dM (t i:Nat):gp (i * t)=QY (gp t) i:=by
 induction i with
 |zero=>rw [Nat.zero_mul];exact QU
 |succ i ih=>rw [Nat.add_mul,Nat.one_mul,Nat.add_comm,QX,ih];rfl
theorem d6:∀(xs vs:List F),vs.length=xs.length→xs.Nodup→(∀i,i < xs.length→EK (xs.map fun x=>QY x i) vs=0)→∀j,Dd vs j=0
 |[],[],_,_,_=>fun j=>rfl
 |x :: xs,v :: vs,hl,hn,h=>by
  have hl':vs.length=xs.length:=by simpa using hl
  rw [List.nodup_cons] at hn
  have key:∀(i:Nat) (ys ws:List F),ws.length=ys.length→EK (ys.map fun y=>QY y i) (List.zipWith (fun y w=>fm w (fa y x)) ys ws)=fa (EK (ys.map fun y=>QY y (i+1)) ws) (fm x (EK (ys.map fun y=>QY y i) ws)):=by
   intro i ys
   induction ys with
   |nil=>intro ws _;rw [List.map_nil,Js,List.map_nil,Js,Cz];rfl
   |cons y ys ih =>
    intro ws hw
    cases ws with
    |nil=>simp at hw
    |cons w ws =>
     have:=ih ws (by simpa using hw)
     simp only [List.map_cons,List.zipWith_cons_cons,DJ]
     rw [this,KK w,KK (QY y i),KK x,fP]
     congr 1
     ·congr 1
      show fm (QY y i) (fm w y)=fm (fm y (QY y i)) w
      rw [Cn w y,←E1,Cn (QY y i) y]
     ·congr 1
      rw [LW,Cn,E1]
      rw [LW]
  have hz:∀i,i < xs.length→EK (xs.map fun y=>QY y i) (List.zipWith (fun y w=>fm w (fa y x)) xs vs)=0:=fun i hi=>by
   rw [key i xs vs hl']
   have h1:=h i (by simp;omega)
   have h2:=h (i+1) (by simpa using hi)
   simp only [List.map_cons,DJ] at h1 h2
   have e1:EK (xs.map fun y=>QY y i) vs=fm (QY x i) v:=(GN _ _ h1).symm
   have e2:EK (xs.map fun y=>QY y (i+1)) vs=fm (QY x (i+1)) v:=(GN _ _ h2).symm
   rw [e1,e2,←E1]
   exact E2 _
  have ih:=d6 xs (List.zipWith (fun y w=>fm w (fa y x)) xs vs) (by simp [hl']) hn.2 hz
  have htail:∀j,Dd vs j=0:=fun j=>by
   by_cases hj:j < xs.length
   ·have:=ih j
    unfold Dd at this ⊢
    rw [List.getElem?_zipWith,List.getElem?_eq_getElem hj,List.getElem?_eq_getElem (by omega)] at this
    rw [List.getElem?_eq_getElem (by omega)]
    have hne:fa xs[j] x≠0:=fun e=>hn.1 (by rw [←GN _ _ e];exact List.getElem_mem hj)
    exact(Ny _ _ this).resolve_right hne
   ·exact Qy _ _ (by omega)
  have hhead:v=0:=by
   have h0:=h 0 (by simp)
   simp only [List.map_cons,DJ] at h0
   have:EK (xs.map fun y=>QY y 0) vs=0:=by
    have hvs:vs=List.replicate vs.length 0:=by
     apply Kn (by simp)
     intro j hj
     rw [htail j]
     simp [Dd,hj]
    rw [hvs]
    generalize xs.map (fun y=>QY y 0)=zs
    generalize vs.length=n
    induction zs generalizing n with
    |nil=>rfl
    |cons z zs ih2 =>
     cases n with
     |zero=>rfl
     |succ n=>rw [List.replicate_succ,DJ,Cz,ih2];rfl
   rw [this,CM] at h0
   rw [show QY x 0=1 from rfl,QK] at h0
   exact h0
  intro j
  cases j with
  |zero=>exact hhead
  |succ j=>exact htail j
def RC (L i j:Nat):F:=gp (i * (L - 1 - j))
def Iu (L P:Nat) (at_:List Nat) (s:List F):List (List F):=(List.range P).map fun i=>(at_.map fun j=>RC L i j)++[Dd s i]
theorem Jr (L P:Nat) (at_:List Nat) (s:List F):NV (Iu L P at_ s) P (at_.length+1):=by
 refine⟨by simp [Iu],fun i hi=>?_⟩
 unfold Iu
 rw [Kh (α:=F) _ _ _ hi];simp
theorem Nj (L P:Nat) (at_:List Nat) (s:List F) (i:Nat) (h:i < P):Ab (Iu L P at_ s) i=(at_.map fun j=>RC L i j)++[Dd s i]:=Kh (α:=F) _ _ _ h
structure RD (L:Nat) (at_:List Nat):Prop where
 nd:at_.Nodup
 lt:∀j,j∈at_→j < L
theorem Qn (L P:Nat) (at_:List Nat) (s v:List F) (c:F) (hv:v.length=at_.length) (i:Nat) (h:i < P):EK (Ab (Iu L P at_ s) i) (v++[c])=fa (EK (at_.map fun j=>RC L i j) v) (fm (Dd s i) c):=by
 rw [Nj _ _ _ _ _ h,N3 _ _ _ _ (by simp [hv])]
theorem R3 {L P:Nat} (hL:L≤15) {at_:List Nat} (hp:RD L at_) (hm:at_.length≤P) {s v:List F} (hv:v.length=at_.length) (h:ND 0 (Iu L P at_ s) v):∀j,Dd v j=0:=by
 have hx:(at_.map fun j=>gp (L - 1 - j)).Nodup:=by
  have h1:=hp.nd
  have h2:=hp.lt
  clear h hv hm
  induction at_ with
  |nil=>simp
  |cons a l ih =>
   rw [List.nodup_cons] at h1
   rw [List.map_cons,List.nodup_cons]
   refine⟨fun hmem=>?_,ih ⟨h1.2,fun j hj=>h2 j (by simp [hj])⟩ h1.2 fun j hj=>h2 j (by simp [hj])⟩
   obtain⟨b,hb,he⟩:=List.mem_map.1 hmem
   have ha:=h2 a (by simp)
   have hb2:=h2 b (by simp [hb])
   have:=dN (by omega) (by omega) he
   have:a=b:=by omega
   subst this
   exact h1.1 hb
 refine d6 _ v (by simp [hv]) hx fun i hi=>?_
 have hi':i < P:=by simp at hi;omega
 have:=h i (by rw [(Jr L P at_ s).len];exact hi')
 rw [Qn _ _ _ _ _ _ hv i hi',Cz,CM] at this
 rw [List.map_map]
 have e:(at_.map ((fun x=>QY x i) ∘ fun j=>gp (L - 1 - j)))=at_.map fun j=>RC L i j:=List.map_congr_left fun j _=>(dM _ _).symm
 rw [e];exact this
theorem Z4 {c d:F} {M:List (List F)} {v w:List F} (hl:v.length=w.length) (h1:ND c M v) (h2:ND d M w):ND (fa c d) M (OU v w):=by
 intro i hi
 have:OU v w++[fa c d]=OU (v++[c]) (w++[d]):=by
  unfold OU
  rw [List.zipWith_append hl];rfl
 rw [this,SM _ _ _ (by simp [hl]),h1 i hi,h2 i hi,CM]
theorem XZ {L P:Nat} (hL:L≤15) {at_:List Nat} (hp:RD L at_) (hm:at_.length≤P) {s v w:List F} (hv:v.length=at_.length) (hw:w.length=at_.length) (h1:ND 1 (Iu L P at_ s) v) (h2:ND 1 (Iu L P at_ s) w):v=w:=by
 have h:=Z4 (by omega) h1 h2
 rw [E2] at h
 have:=R3 hL hp hm (by rw [ZS _ _ (by omega)];exact hv) h
 refine Kn (by omega) fun j _=>?_
 have hj:=this j
 rw [ZK _ _ _ (by omega)] at hj
 exact GN _ _ hj
open Classical in
noncomputable def F0 (L P:Nat) (at_:List Nat) (s:List F):Option (List F) :=
 if h:∃v:List F,v.length=at_.length∧ND 1 (Iu L P at_ s) v then some h.choose else none
theorem Jk {L P:Nat} (hL:L≤15) {at_:List Nat} (hp:RD L at_) (hm:at_.length≤P) {s v:List F} (hv:v.length=at_.length) (h:ND 1 (Iu L P at_ s) v):F0 L P at_ s=some v:=by
 have hex:∃v:List F,v.length=at_.length∧ND 1 (Iu L P at_ s) v:=⟨v,hv,h⟩
 unfold F0
 rw [dif_pos hex]
 congr 1
 exact XZ hL hp hm hex.choose_spec.1 hv hex.choose_spec.2 h
theorem VT {L P:Nat} {at_:List Nat} {s:List F} (h:∀v:List F,v.length=at_.length→¬ND 1 (Iu L P at_ s) v):F0 L P at_ s=none:=by
 unfold F0
 rw [dif_neg fun⟨v,h1,h2⟩=>h v h1 h2]
theorem FL {L P:Nat} {at_:List Nat} {s v:List F} (h:F0 L P at_ s=some v):v.length=at_.length∧ND 1 (Iu L P at_ s) v:=by
 unfold F0 at h
 split at h
 ·rename_i hex
  simp only [Option.some.injEq] at h
  rw [←h];exact hex.choose_spec
 ·cases h
end Go.Pw

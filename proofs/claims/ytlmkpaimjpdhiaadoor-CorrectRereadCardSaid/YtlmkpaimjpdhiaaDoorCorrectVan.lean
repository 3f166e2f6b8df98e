/- A part of the proof. -/
import Derived.Test.YtlmkpaimjpdhiaaDoorCorrectLin
set_option linter.all false
namespace Go.Pw
set_option linter.unusedSimpArgs false
set_option linter.unusedVariables false
def ON (v w:List F):List F:=List.zipWith fa v w
theorem ZO (v w:List F) (h:v.length=w.length):(ON v w).length=v.length:=by simp [ON,h]
theorem ZG (v w:List F) (j:Nat) (h:v.length=w.length):Dc (ON v w) j=fa (Dc v j) (Dc w j):=by
 unfold Dc ON
 rw [List.getElem?_zipWith]
 by_cases hj:j < v.length
 ·rw [List.getElem?_eq_getElem hj,List.getElem?_eq_getElem (by omega)];rfl
 ·rw [List.getElem?_eq_none (by omega),List.getElem?_eq_none (l:=w) (by omega)];rfl
theorem SI:∀(r v w:List F),v.length=w.length→EK r (ON v w)=fa (EK r v) (EK r w)
 |[],v,w,_=>by simp [Jr,CM]
 |x :: r,[],[],_=>by simp [ON,N0,CM]
 |x :: r,a :: v,b :: w,h=>by
  have ih:=SI r v w (by simpa using h)
  simp only [ON,List.zipWith_cons_cons,DJ] at ih ⊢
  rw [ih,KI,fL]
theorem Kk {v w:List F} (hl:v.length=w.length) (h:∀j,j < v.length→Dc v j=Dc w j):v=w:=by
 apply List.ext_getElem hl
 intro j h1 h2
 have:=h j h1
 unfold Dc at this
 rwa [List.getElem?_eq_getElem h1,List.getElem?_eq_getElem h2] at this
def QT (x:F):Nat→F
 |0=>1
 |n+1=>fm x (QT x n)
theorem dI (t i:Nat):gp (i * t)=QT (gp t) i:=by
 induction i with
 |zero=>rw [Nat.zero_mul];exact QP
 |succ i ih=>rw [Nat.add_mul,Nat.one_mul,Nat.add_comm,QS,ih];rfl
theorem dz:∀(xs vs:List F),vs.length=xs.length→xs.Nodup→(∀i,i < xs.length→EK (xs.map fun x=>QT x i) vs=0)→∀j,Dc vs j=0
 |[],[],_,_,_=>fun j=>rfl
 |x :: xs,v :: vs,hl,hn,h=>by
  have hl':vs.length=xs.length:=by simpa using hl
  rw [List.nodup_cons] at hn
  have key:∀(i:Nat) (ys ws:List F),ws.length=ys.length→EK (ys.map fun y=>QT y i) (List.zipWith (fun y w=>fm w (fa y x)) ys ws)=fa (EK (ys.map fun y=>QT y (i+1)) ws) (fm x (EK (ys.map fun y=>QT y i) ws)):=by
   intro i ys
   induction ys with
   |nil=>intro ws _;rw [List.map_nil,Jr,List.map_nil,Jr,Cy];rfl
   |cons y ys ih =>
    intro ws hw
    cases ws with
    |nil=>simp at hw
    |cons w ws =>
     have:=ih ws (by simpa using hw)
     simp only [List.map_cons,List.zipWith_cons_cons,DJ]
     rw [this,KI w,KI (QT y i),KI x,fL]
     congr 1
     ·congr 1
      show fm (QT y i) (fm w y)=fm (fm y (QT y i)) w
      rw [Cn w y,←E2,Cn (QT y i) y]
     ·congr 1
      rw [LT,Cn,E2]
      rw [LT]
  have hz:∀i,i < xs.length→EK (xs.map fun y=>QT y i) (List.zipWith (fun y w=>fm w (fa y x)) xs vs)=0:=fun i hi=>by
   rw [key i xs vs hl']
   have h1:=h i (by simp;omega)
   have h2:=h (i+1) (by simpa using hi)
   simp only [List.map_cons,DJ] at h1 h2
   have e1:EK (xs.map fun y=>QT y i) vs=fm (QT x i) v:=(GN _ _ h1).symm
   have e2:EK (xs.map fun y=>QT y (i+1)) vs=fm (QT x (i+1)) v:=(GN _ _ h2).symm
   rw [e1,e2,←E2]
   exact E3 _
  have ih:=dz xs (List.zipWith (fun y w=>fm w (fa y x)) xs vs) (by simp [hl']) hn.2 hz
  have htail:∀j,Dc vs j=0:=fun j=>by
   by_cases hj:j < xs.length
   ·have:=ih j
    unfold Dc at this ⊢
    rw [List.getElem?_zipWith,List.getElem?_eq_getElem hj,List.getElem?_eq_getElem (by omega)] at this
    rw [List.getElem?_eq_getElem (by omega)]
    have hne:fa xs[j] x≠0:=fun e=>hn.1 (by rw [←GN _ _ e];exact List.getElem_mem hj)
    exact(Nt _ _ this).resolve_right hne
   ·exact Qt _ _ (by omega)
  have hhead:v=0:=by
   have h0:=h 0 (by simp)
   simp only [List.map_cons,DJ] at h0
   have:EK (xs.map fun y=>QT y 0) vs=0:=by
    have hvs:vs=List.replicate vs.length 0:=by
     apply Kk (by simp)
     intro j hj
     rw [htail j]
     simp [Dc,hj]
    rw [hvs]
    generalize xs.map (fun y=>QT y 0)=zs
    generalize vs.length=n
    induction zs generalizing n with
    |nil=>rfl
    |cons z zs ih2 =>
     cases n with
     |zero=>rfl
     |succ n=>rw [List.replicate_succ,DJ,Cy,ih2];rfl
   rw [this,CM] at h0
   rw [show QT x 0=1 from rfl,QF] at h0
   exact h0
  intro j
  cases j with
  |zero=>exact hhead
  |succ j=>exact htail j
def Q9 (L i j:Nat):F:=gp (i * (L - 1 - j))
def It (L P:Nat) (at_:List Nat) (s:List F):List (List F):=(List.range P).map fun i=>(at_.map fun j=>Q9 L i j)++[Dc s i]
theorem Jq (L P:Nat) (at_:List Nat) (s:List F):NQ (It L P at_ s) P (at_.length+1):=by
 refine⟨by simp [It],fun i hi=>?_⟩
 unfold It
 rw [Ke (α:=F) _ _ _ hi];simp
theorem Nd (L P:Nat) (at_:List Nat) (s:List F) (i:Nat) (h:i < P):Ab (It L P at_ s) i=(at_.map fun j=>Q9 L i j)++[Dc s i]:=Ke (α:=F) _ _ _ h
structure Q_ (L:Nat) (at_:List Nat):Prop where
 nd:at_.Nodup
 lt:∀j,j∈at_→j < L
theorem Qi (L P:Nat) (at_:List Nat) (s v:List F) (c:F) (hv:v.length=at_.length) (i:Nat) (h:i < P):EK (Ab (It L P at_ s) i) (v++[c])=fa (EK (at_.map fun j=>Q9 L i j) v) (fm (Dc s i) c):=by
 rw [Nd _ _ _ _ _ h,Ny _ _ _ _ (by simp [hv])]
theorem Ry {L P:Nat} (hL:L≤15) {at_:List Nat} (hp:Q_ L at_) (hm:at_.length≤P) {s v:List F} (hv:v.length=at_.length) (h:M9 0 (It L P at_ s) v):∀j,Dc v j=0:=by
 have hx:(at_.map fun j=>gp (L - 1 - j)).Nodup:=by
  have h1:=hp.nd
  have h2:=hp.lt
  clear h hv hm
  induction at_ with
  |nil=>simp
  |cons a l ih =>
   rw [List.nodup_cons] at h1
   rw [List.map_cons,List.nodup_cons]
   refine⟨fun hmem=>?_,ih ⟨h1.2,fun j hj=>h2 j (by simp [hj])⟩ h1.2 fun j hj=>h2 j (by simp [hj])⟩
   obtain⟨b,hb,he⟩:=List.mem_map.1 hmem
   have ha:=h2 a (by simp)
   have hb2:=h2 b (by simp [hb])
   have:=dJ (by omega) (by omega) he
   have:a=b:=by omega
   subst this
   exact h1.1 hb
 refine dz _ v (by simp [hv]) hx fun i hi=>?_
 have hi':i < P:=by simp at hi;omega
 have:=h i (by rw [(Jq L P at_ s).len];exact hi')
 rw [Qi _ _ _ _ _ _ hv i hi',Cy,CM] at this
 rw [List.map_map]
 have e:(at_.map ((fun x=>QT x i) ∘ fun j=>gp (L - 1 - j)))=at_.map fun j=>Q9 L i j:=List.map_congr_left fun j _=>(dI _ _).symm
 rw [e];exact this
theorem Z0 {c d:F} {M:List (List F)} {v w:List F} (hl:v.length=w.length) (h1:M9 c M v) (h2:M9 d M w):M9 (fa c d) M (ON v w):=by
 intro i hi
 have:ON v w++[fa c d]=ON (v++[c]) (w++[d]):=by
  unfold ON
  rw [List.zipWith_append hl];rfl
 rw [this,SI _ _ _ (by simp [hl]),h1 i hi,h2 i hi,CM]
theorem XV {L P:Nat} (hL:L≤15) {at_:List Nat} (hp:Q_ L at_) (hm:at_.length≤P) {s v w:List F} (hv:v.length=at_.length) (hw:w.length=at_.length) (h1:M9 1 (It L P at_ s) v) (h2:M9 1 (It L P at_ s) w):v=w:=by
 have h:=Z0 (by omega) h1 h2
 rw [E3] at h
 have:=Ry hL hp hm (by rw [ZO _ _ (by omega)];exact hv) h
 refine Kk (by omega) fun j _=>?_
 have hj:=this j
 rw [ZG _ _ _ (by omega)] at hj
 exact GN _ _ hj
open Classical in
noncomputable def F0 (L P:Nat) (at_:List Nat) (s:List F):Option (List F) :=
 if h:∃v:List F,v.length=at_.length∧M9 1 (It L P at_ s) v then some h.choose else none
theorem Jj {L P:Nat} (hL:L≤15) {at_:List Nat} (hp:Q_ L at_) (hm:at_.length≤P) {s v:List F} (hv:v.length=at_.length) (h:M9 1 (It L P at_ s) v):F0 L P at_ s=some v:=by
 have hex:∃v:List F,v.length=at_.length∧M9 1 (It L P at_ s) v:=⟨v,hv,h⟩
 unfold F0
 rw [dif_pos hex]
 congr 1
 exact XV hL hp hm hex.choose_spec.1 hv hex.choose_spec.2 h
theorem VP {L P:Nat} {at_:List Nat} {s:List F} (h:∀v:List F,v.length=at_.length→¬M9 1 (It L P at_ s) v):F0 L P at_ s=none:=by
 unfold F0
 rw [dif_neg fun⟨v,h1,h2⟩=>h v h1 h2]
theorem FM {L P:Nat} {at_:List Nat} {s v:List F} (h:F0 L P at_ s=some v):v.length=at_.length∧M9 1 (It L P at_ s) v:=by
 unfold F0 at h
 split at h
 ·rename_i hex
  simp only [Option.some.injEq] at h
  rw [←h];exact hex.choose_spec
 ·cases h
end Go.Pw

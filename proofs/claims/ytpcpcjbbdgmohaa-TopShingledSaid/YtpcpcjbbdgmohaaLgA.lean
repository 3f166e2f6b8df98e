/- A part of the proof. -/
import Derived.Test.YtpcpcjbbdgmohaaPkVC
set_option linter.all false
open Go Go.Pw
namespace Go.Pw
structure Cx where
 kind:Int
 blk:Int
instance:Inhabited Cx:=⟨⟨0,0⟩⟩
structure Ew where
 aft:Int
 blk:Int
instance:Inhabited Ew:=⟨⟨0,0⟩⟩
def Cx.puts (o:Cx):Bool:=decide (o.kind=1) || decide (o.kind=2)
structure Au where
 blocks:Int
 on:Bool
 ords:List Cx
def HS (n lo hi:Int):Bool:=decide (lo<=n) && decide (n<=hi)
def Cx.ok (o:Cx) (blocks:Int):Bool:=o.puts && HS o.blk 0 (blocks-1) || (decide (o.kind=3) || decide (o.kind=4)) && decide (o.blk=0)
def Au.ok (c:Au):Bool:=HS c.blocks 1 6 && (decide (c.ords.length<=16) && c.ords.all fun o=>o.ok c.blocks)
structure Ap where
 med:List Int
 eps:List (List Int)
 wr:Int
def DI:List Int:=[-3,-3,-3,-3,-3,-3]
def Ap.begin:Ap:=⟨[-1,-1,-1,-1,-1,-1],[DI],0⟩
def Ap.ent (s:Ap) (e b:Nat):Int:=(s.eps[e]?.getD [])[b]?.getD 0
def Ap.write (s:Ap) (e b:Nat):Ap:=if s.ent e b=-3 then s else ⟨s.med.set b (s.ent e b),s.eps.set e ((s.eps[e]?.getD []).set b (-3)),IntKind.i64.wrap (s.wr+1)⟩
def Ap.wrB (s:Ap) (e:Nat):Nat->Ap
 |0=>s
 |b+1=>(s.wrB e b).write e b
def Ap.wrE (s:Ap):Nat->Ap
 |0=>s
 |e+1=>(s.wrE e).wrB e 6
def Ap.last (s:Ap):Nat:=s.eps.length-1
def Ap.setL (s:Ap) (b:Nat) (n:Int):Ap:={ s with eps:=s.eps.set s.last ((s.eps[s.last]?.getD []).set b n) }
def Ap.tidy (s:Ap):Ap:={ s with eps:=(s.eps.take s.last).filter (fun r=>decide (r≠DI))++[s.eps[s.last]?.getD []] }
def Ap.order (s:Ap) (n:Int) (o:Cx):Ap :=
 (
  if o.kind=1 then s.setL o.blk.toNat n
  else if o.kind=2 then (let t:=s.setL o.blk.toNat n;(t.wrE t.last).write t.last o.blk.toNat)
  else if o.kind=3 then { s with eps:=s.eps++[DI] }
  else if o.kind=4 then s.wrE s.eps.length
  else s).tidy
def Ap.first (s:Ap):Option Nat:=s.eps.findIdx? fun r=>decide (r≠DI)
def Ap.can (s:Ap) (b:Nat):Bool:=match s.first with
 |some e=>decide (s.ent e b≠-3)
 |none=>false
def Ap.drain (s:Ap) (b:Nat):Ap:=(s.write (s.first.getD 0) b).tidy
def Ap.ordN (c:Au) (s:Ap) (a:Nat):Nat->Ap
 |0=>s
 |k+1=>(s.ordN c a k).order ((a+k:Nat):Int) (c.ords[a+k]?.getD default)
def El (c:Au):List Ew->Ap->Nat->Option (Ap×Nat)
 |[],s,a=>some (s,a)
 |d::l,s,a=>if (decide ((a:Int)<=d.aft) && decide (d.aft<=c.ords.length)) && HS d.blk 0 (c.blocks-1)=true then
   (
    let t:=s.ordN c a (d.aft.toNat-a)
    if t.can d.blk.toNat=true then El c l (t.drain d.blk.toNat) d.aft.toNat else none)
  else none
def Pr (c:Au) (ds:List Ew) (torn:Bool):Bool:=torn && (decide (ds.length=0) || decide ((ds[ds.length-1]?.getD default).aft≠c.ords.length))
def RF (c:Au) (ds:List Ew) (torn:Bool):Option (List Int):=match El c ds Ap.begin 0 with
 |none=>none
 |some (s,a)=>some (let m:=(s.ordN c a (c.ords.length-a)).med;if torn then m.set (ds[ds.length-1]?.getD default).blk.toNat (-2) else m)
def Ek (c:Au) (ds:List Ew) (torn:Bool):Int:=if !c.ok then 80 else if decide (16<ds.length) || Pr c ds torn then 1 else if (RF c ds torn).isNone then 1 else 0
def Fj (c:Au) (ds:List Ew) (torn:Bool):List Int:=if Ek c ds torn=0 then ((RF c ds torn).getD []).take c.blocks.toNat else []
def Ti (c:Au) (b:Nat) (n:Int):Prop:=0<=n/\n<c.ords.length/\(c.ords[n.toNat]?.getD default).puts=true/\(c.ords[n.toNat]?.getD default).blk=(b:Int)
structure Ap.Inv (c:Au) (s:Ap):Prop where
 ml:s.med.length=6
 ne:1<=s.eps.length
 el:∀r,r∈s.eps->r.length=6
 mh:∀b,b<6->s.med[b]?.getD 0=-1\/Ti c b (s.med[b]?.getD 0)
 eh:∀r,r∈s.eps->∀b,b<6->r[b]?.getD 0=-3\/Ti c b (r[b]?.getD 0)
theorem Lu {b:Nat}(h:b<6):DI[b]?.getD 0=-3:=by
 have:b=0\/b=1\/b=2\/b=3\/b=4\/b=5:=by omega
 rcases this with rfl|rfl|rfl|rfl|rfl|rfl<;>rfl
theorem KT (c:Au):Ap.begin.Inv c where
 ml:=rfl
 ne:=Nat.le_refl _
 el:=fun r hr=>by simp[Ap.begin] at hr;subst hr;rfl
 mh:=fun b hb=>by
  left
  have:b=0\/b=1\/b=2\/b=3\/b=4\/b=5:=by omega
  rcases this with rfl|rfl|rfl|rfl|rfl|rfl<;>rfl
 eh:=fun r hr b hb=>by simp[Ap.begin] at hr;subst hr;exact .inl (Lu hb)
theorem Dw {α:Type}{l:List α}{i j:Nat}{v d:α}(hi:i<l.length):(l.set i v)[j]?.getD d=if i=j then v else l[j]?.getD d:=by
 rw[List.getElem?_set]
 by_cases e:i=j
 ·subst e;rw[if_pos rfl,if_pos hi,if_pos rfl];rfl
 ·rw[if_neg e,if_neg e]
theorem BL {l:List (List Int)}{i:Nat}(h:i<l.length):l[i]?.getD []∈l:=by rw[List.getElem?_eq_getElem h];exact List.getElem_mem h
theorem IK {c:Au}{s:Ap}(h:s.Inv c) {e b:Nat}(he:e<s.eps.length) (hb:b<6):(s.write e b).Inv c:=by
 unfold Ap.write
 split
 ·exact h
 ·rename_i hn
  have hm:=BL he
  have hrl:=h.el _ hm
  have hent:Ti c b (s.ent e b):=(h.eh _ hm b hb).resolve_left hn
  refine⟨?_,?_,fun r hr=>?_,fun b' hb'=>?_,fun r hr b' hb'=>?_⟩
  ·simp[h.ml]
  ·simpa using h.ne
  ·rcases List.mem_or_eq_of_mem_set hr with hr|rfl
   ·exact h.el r hr
   ·simpa using hrl
  ·show (s.med.set b (s.ent e b))[b']?.getD 0=-1\/Ti c b' ((s.med.set b (s.ent e b))[b']?.getD 0)
   rw[Dw (by rw[h.ml];exact hb)]
   by_cases e1:b=b'
   ·subst e1;rw[if_pos rfl];exact .inr hent
   ·rw[if_neg e1];exact h.mh b' hb'
  ·rcases List.mem_or_eq_of_mem_set hr with hr|rfl
   ·exact h.eh r hr b' hb'
   ·rw[Dw (by rw[hrl];exact hb)]
    by_cases e1:b=b'
    ·rw[if_pos e1];exact .inl rfl
    ·rw[if_neg e1];exact h.eh _ hm b' hb'
theorem Bz (s:Ap) (e b:Nat):(s.write e b).eps.length=s.eps.length:=by unfold Ap.write;split<;>simp
theorem Gx (s:Ap) (e:Nat):∀b,(s.wrB e b).eps.length=s.eps.length
 |0=>rfl
 |b+1=>by rw[Ap.wrB,Bz,Gx s e b]
theorem Cp (s:Ap):∀e,(s.wrE e).eps.length=s.eps.length
 |0=>rfl
 |e+1=>by rw[Ap.wrE,Gx,Cp s e]
theorem Vu {c:Au}{s:Ap}(h:s.Inv c) {e:Nat}(he:e<s.eps.length):∀b,b<=6->(s.wrB e b).Inv c
 |0,_=>h
 |b+1,hb=>IK (Vu h he b (by omega)) (by rw[Gx];exact he) (by omega)
theorem L5 {c:Au}{s:Ap}(h:s.Inv c):∀e,e<=s.eps.length->(s.wrE e).Inv c
 |0,_=>h
 |e+1,he=>Vu (L5 h e (by omega)) (by rw[Cp];omega) 6 (Nat.le_refl _)
theorem L6 {c:Au}{s:Ap}(h:s.Inv c) {b:Nat}{n:Int}(hb:b<6) (hn:Ti c b n):(s.setL b n).Inv c:=by
 have hl:s.last<s.eps.length:=by have:=h.ne;unfold Ap.last;omega
 have hm:=BL hl
 have hrl:=h.el _ hm
 refine⟨h.ml,by simpa[Ap.setL] using h.ne,fun r hr=>?_,h.mh,fun r hr b' hb'=>?_⟩
 ·rcases List.mem_or_eq_of_mem_set hr with hr|rfl
  ·exact h.el r hr
  ·simpa using hrl
 ·rcases List.mem_or_eq_of_mem_set hr with hr|rfl
  ·exact h.eh r hr b' hb'
  ·rw[Dw (by rw[hrl];exact hb)]
   by_cases e1:b=b'
   ·subst e1;rw[if_pos rfl];exact .inr hn
   ·rw[if_neg e1];exact h.eh _ hm b' hb'
theorem Sw {c:Au}{s:Ap}(h:s.Inv c):s.tidy.Inv c:=by
 have hl:s.last<s.eps.length:=by have:=h.ne;unfold Ap.last;omega
 have hsub:∀r,r∈s.tidy.eps->r∈s.eps:=fun r hr=>by
  simp only[Ap.tidy,List.mem_append,List.mem_filter,List.mem_singleton] at hr
  rcases hr with hr|hr
  ·exact List.mem_of_mem_take hr.1
  ·subst hr;exact BL hl
 exact⟨h.ml,by simp[Ap.tidy],fun r hr=>h.el r (hsub r hr),h.mh,fun r hr=>h.eh r (hsub r hr)⟩
theorem Fe {c:Au}(hc:c.ok=true) {n:Nat}(hn:n<c.ords.length):(c.ords[n]?.getD default).ok c.blocks=true:=by
 simp only[Au.ok,Bool.and_eq_true,List.all_eq_true] at hc
 exact hc.2.2 _ (by rw[List.getElem?_eq_getElem hn];exact List.getElem_mem hn)
theorem Cr {c:Au}(hc:c.ok=true):1<=c.blocks/\c.blocks<=6/\c.ords.length<=16:=by
 simp only[Au.ok,Bool.and_eq_true,HS,decide_eq_true_eq] at hc
 omega
theorem RH {o:Cx}{b:Int}(h:o.ok b=true):o.puts=true->0<=o.blk/\o.blk<=b-1:=fun hp=>by
 simp only[Cx.ok,Bool.or_eq_true,Bool.and_eq_true,HS,decide_eq_true_eq] at h
 rcases h with h|h
 ·exact h.2
 ·simp only[Cx.puts,Bool.or_eq_true,decide_eq_true_eq] at hp;omega
theorem W2 {c:Au}(hc:c.ok=true) {s:Ap}(h:s.Inv c) {n:Nat}(hn:n<c.ords.length):(s.order (n:Int) (c.ords[n]?.getD default)).Inv c:=by
 have hb:=Cr hc
 have ho:=Fe hc hn
 obtain⟨o,hoe⟩:∃o,c.ords[n]?.getD default=o:=⟨_,rfl⟩
 have hold:o.puts=true->o.blk.toNat<6/\Ti c o.blk.toNat (n:Int):=fun hp=>by
  rw[hoe] at ho
  have:=RH ho hp
  refine⟨by omega,by omega,by omega,?_,?_⟩
  ·rw[Int.toNat_natCast,hoe];exact hp
  ·rw[Int.toNat_natCast,hoe];omega
 rw[hoe]
 unfold Ap.order
 apply Sw
 have hlast:∀{t:Ap},t.Inv c->t.last<t.eps.length:=fun {t} ht=>by have:=ht.ne;unfold Ap.last;omega
 by_cases k1:o.kind=1
 ·obtain⟨h1,h2⟩:=hold (by simp[Cx.puts,k1])
  rw[if_pos k1];exact L6 h h1 h2
 rw[if_neg k1]
 by_cases k2:o.kind=2
 ·obtain⟨h1,h2⟩:=hold (by simp[Cx.puts,k2])
  have hs:=L6 h h1 h2
  rw[if_pos k2]
  have hl:=hlast hs
  exact IK (L5 hs _ (by omega)) (by rw[Cp];exact hl) h1
 rw[if_neg k2]
 by_cases k3:o.kind=3
 ·rw[if_pos k3]
  refine⟨h.ml,by simp,fun r hr=>?_,h.mh,fun r hr b hb=>?_⟩
  ·simp only[List.mem_append,List.mem_singleton] at hr
   rcases hr with hr|rfl
   ·exact h.el r hr
   ·rfl
  ·simp only[List.mem_append,List.mem_singleton] at hr
   rcases hr with hr|rfl
   ·exact h.eh r hr b hb
   ·exact .inl (Lu hb)
 rw[if_neg k3]
 by_cases k4:o.kind=4
 ·rw[if_pos k4];exact L5 h _ (Nat.le_refl _)
 ·rw[if_neg k4];exact h
theorem Oj {c:Au}(hc:c.ok=true) {s:Ap}(h:s.Inv c) {a:Nat}:∀k,a+k<=c.ords.length->(s.ordN c a k).Inv c
 |0,_=>h
 |k+1,hk=>W2 hc (Oj hc h k (by omega)) (by omega)
theorem W3 {c:Au}{s:Ap}(h:s.Inv c) {b:Nat}(hb:b<6):(s.drain b).Inv c:=by
 unfold Ap.drain
 refine Sw (IK h ?_ hb)
 cases hf:s.first with
 |none=>have:=h.ne;simp;omega
 |some e =>
  unfold Ap.first at hf
  rw[List.findIdx?_eq_some_iff_getElem] at hf
  exact hf.1
theorem Ms {c:Au}(hc:c.ok=true):∀(l:List Ew) (s:Ap) (a:Nat),a<=c.ords.length->s.Inv c->∀{t a'},El c l s a=some (t,a')->t.Inv c/\a'<=c.ords.length/\∀d,d∈l->0<=d.blk/\d.blk<=c.blocks-1
 |[],s,a,ha,h,t,a',e=>by
  simp only[El,Option.some.injEq,Prod.mk.injEq] at e
  obtain⟨rfl,rfl⟩:=e
  exact⟨h,ha,fun d hd=>by cases hd⟩
 |d::l,s,a,ha,h,t,a',e=>by
  have hb:=Cr hc
  unfold El at e
  split at e
  ·rename_i hg
   simp only[Bool.and_eq_true,decide_eq_true_eq,HS] at hg
   dsimp only at e
   split at e
   ·have h1:=Oj hc h (a:=a) (d.aft.toNat-a) (by omega)
    obtain⟨k1,k2,k3⟩:=Ms hc l _ _ (by omega) (W3 h1 (b:=d.blk.toNat) (by omega)) e
    refine⟨k1,k2,fun x hx=>?_⟩
    rcases List.mem_cons.1 hx with rfl|hx
    ·exact hg.2
    ·exact k3 x hx
   ·cases e
  ·cases e
theorem OX {c:Au}{ds:List Ew}{torn:Bool}(h:Ek c ds torn=0):(Fj c ds torn).length=c.blocks.toNat /\
  ∀b,b<c.blocks.toNat->(Fj c ds torn)[b]?.getD 0=-1\/(Fj c ds torn)[b]?.getD 0=-2\/Ti c b ((Fj c ds torn)[b]?.getD 0):=by
 have hL:Fj c ds torn=((RF c ds torn).getD []).take c.blocks.toNat:=by unfold Fj;rw[if_pos h]
 unfold Ek at h
 cases hc:c.ok with
 |false=>rw[hc] at h;simp at h
 |true =>
 rw[hc] at h
 simp only[Bool.not_true,Bool.false_eq_true,if_false] at h
 split at h
 ·omega
 rename_i hg
 split at h
 ·omega
 rename_i hp
 have hb:=Cr hc
 cases hd:El c ds Ap.begin 0 with
 |none=>unfold RF at hp;rw[hd] at hp;simp at hp
 |some p =>
  obtain⟨s,a⟩:=p
  obtain⟨k1,k2,k3⟩:=Ms hc ds Ap.begin 0 (Nat.zero_le _) (KT c) hd
  have k4:=Oj hc k1 (a:=a) (c.ords.length-a) (by omega)
  obtain⟨u,hu⟩:∃u,s.ordN c a (c.ords.length-a)=u:=⟨_,rfl⟩
  rw[hu] at k4
  have hM:(RF c ds torn).getD []=if torn then u.med.set (ds[ds.length-1]?.getD default).blk.toNat (-2) else u.med:=by unfold RF;rw[hd];simp only[hu];rfl
  have hml:((RF c ds torn).getD []).length=6:=by rw[hM];split<;>simp[k4.ml]
  have hget:∀b,b<c.blocks.toNat->(Fj c ds torn)[b]?.getD 0=((RF c ds torn).getD [])[b]?.getD 0:=fun b hbb=>by rw[hL,List.getElem?_take,if_pos hbb]
  refine⟨by rw[hL,List.length_take,hml];omega,fun b hbb=>?_⟩
  rw[hget b hbb,hM]
  cases torn with
  |false=>simp only[Bool.false_eq_true,if_false];exact(k4.mh b (by omega)).imp id .inr
  |true =>
   simp only[if_true]
   by_cases hlt:(ds[ds.length-1]?.getD default).blk.toNat<u.med.length
   ·rw[Dw hlt]
    split
    ·exact .inr (.inl rfl)
    ·exact(k4.mh b (by omega)).imp id .inr
   ·rw[List.set_eq_of_length_le (by omega)]
    exact(k4.mh b (by omega)).imp id .inr
end Go.Pw

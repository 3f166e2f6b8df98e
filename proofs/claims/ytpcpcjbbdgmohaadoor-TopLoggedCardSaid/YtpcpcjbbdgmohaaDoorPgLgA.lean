/- A part of the proof. -/
import Derived.Test.YtpcpcjbbdgmohaaDoorPkLaw
import Derived.Test.YtpcpcjbbdgmohaaDoorLgPC
import Derived.Test.YtpcpcjbbdgmohaaDoorJournalT
set_option linter.all false
section
open Go Go.Pw
namespace Go.Pw
structure DI where
 kind:Int
 blk:Int
instance:Inhabited DI:=⟨⟨0,0⟩⟩
structure G5 where
 aft:Int
 blk:Int
instance:Inhabited G5:=⟨⟨0,0⟩⟩
def DI.puts (o:DI):Bool:=decide (o.kind=1) || decide (o.kind=2)
structure A0 where
 blocks:Int
 on:Bool
 ords:List DI
def Ky (n lo hi:Int):Bool:=decide (lo<=n) && decide (n<=hi)
def DI.ok (o:DI) (blocks:Int):Bool:=o.puts && Ky o.blk 0 (blocks-1) || (decide (o.kind=3) || decide (o.kind=4)) && decide (o.blk=0)
def A0.ok (c:A0):Bool:=Ky c.blocks 1 6 && (decide (c.ords.length<=16) && c.ords.all fun o=>o.ok c.blocks)
structure Bg where
 med:List Int
 eps:List (List Int)
 wr:Int
def JL:List Int:=[-3,-3,-3,-3,-3,-3]
def Bg.begin:Bg:=⟨[-1,-1,-1,-1,-1,-1],[JL],0⟩
def Bg.ent (s:Bg) (e b:Nat):Int:=(s.eps[e]?.getD [])[b]?.getD 0
def Bg.write (s:Bg) (e b:Nat):Bg:=if s.ent e b=-3 then s else ⟨s.med.set b (s.ent e b),s.eps.set e ((s.eps[e]?.getD []).set b (-3)),IntKind.i64.wrap (s.wr+1)⟩
def Bg.wrB (s:Bg) (e:Nat):Nat->Bg
 |0=>s
 |b+1=>(s.wrB e b).write e b
def Bg.wrE (s:Bg):Nat->Bg
 |0=>s
 |e+1=>(s.wrE e).wrB e 6
def Bg.last (s:Bg):Nat:=s.eps.length-1
def Bg.setL (s:Bg) (b:Nat) (n:Int):Bg:={ s with eps:=s.eps.set s.last ((s.eps[s.last]?.getD []).set b n) }
def Bg.tidy (s:Bg):Bg:={ s with eps:=(s.eps.take s.last).filter (fun r=>decide (r≠JL))++[s.eps[s.last]?.getD []] }
def Bg.order (s:Bg) (n:Int) (o:DI):Bg :=
 (
  if o.kind=1 then s.setL o.blk.toNat n
  else if o.kind=2 then (let t:=s.setL o.blk.toNat n;(t.wrE t.last).write t.last o.blk.toNat)
  else if o.kind=3 then { s with eps:=s.eps++[JL] }
  else if o.kind=4 then s.wrE s.eps.length
  else s).tidy
def Bg.first (s:Bg):Option Nat:=s.eps.findIdx? fun r=>decide (r≠JL)
def Bg.can (s:Bg) (b:Nat):Bool:=match s.first with
 |some e=>decide (s.ent e b≠-3)
 |none=>false
def Bg.drain (s:Bg) (b:Nat):Bg:=(s.write (s.first.getD 0) b).tidy
def Bg.ordN (c:A0) (s:Bg) (a:Nat):Nat->Bg
 |0=>s
 |k+1=>(s.ordN c a k).order ((a+k:Nat):Int) (c.ords[a+k]?.getD default)
def Fx (c:A0):List G5->Bg->Nat->Option (Bg×Nat)
 |[],s,a=>some (s,a)
 |d::l,s,a=>if (decide ((a:Int)<=d.aft) && decide (d.aft<=c.ords.length)) && Ky d.blk 0 (c.blocks-1)=true then
   (
    let t:=s.ordN c a (d.aft.toNat-a)
    if t.can d.blk.toNat=true then Fx c l (t.drain d.blk.toNat) d.aft.toNat else none)
  else none
def PP (c:A0) (ds:List G5) (torn:Bool):Bool:=torn && (decide (ds.length=0) || decide ((ds[ds.length-1]?.getD default).aft≠c.ords.length))
def Rm (c:A0) (ds:List G5) (torn:Bool):Option (List Int):=match Fx c ds Bg.begin 0 with
 |none=>none
 |some (s,a)=>some (let m:=(s.ordN c a (c.ords.length-a)).med;if torn then m.set (ds[ds.length-1]?.getD default).blk.toNat (-2) else m)
def EF (c:A0) (ds:List G5) (torn:Bool):Int:=if !c.ok then 80 else if decide (16<ds.length) || PP c ds torn then 1 else if (Rm c ds torn).isNone then 1 else 0
def DW (c:A0) (ds:List G5) (torn:Bool):List Int:=if EF c ds torn=0 then ((Rm c ds torn).getD []).take c.blocks.toNat else []
def UF (c:A0) (b:Nat) (n:Int):Prop:=0<=n/\n<c.ords.length/\(c.ords[n.toNat]?.getD default).puts=true/\(c.ords[n.toNat]?.getD default).blk=(b:Int)
structure Bg.Inv (c:A0) (s:Bg):Prop where
 ml:s.med.length=6
 ne:1<=s.eps.length
 el:∀r,r∈s.eps->r.length=6
 mh:∀b,b<6->s.med[b]?.getD 0=-1\/UF c b (s.med[b]?.getD 0)
 eh:∀r,r∈s.eps->∀b,b<6->r[b]?.getD 0=-3\/UF c b (r[b]?.getD 0)
theorem Rz {b:Nat}(h:b<6):JL[b]?.getD 0=-3:=by
 have:b=0\/b=1\/b=2\/b=3\/b=4\/b=5:=by omega
 rcases this with rfl|rfl|rfl|rfl|rfl|rfl<;>rfl
theorem Pv (c:A0):Bg.begin.Inv c where
 ml:=rfl
 ne:=Nat.le_refl _
 el:=fun r hr=>by simp[Bg.begin] at hr;subst hr;rfl
 mh:=fun b hb=>by
  left
  have:b=0\/b=1\/b=2\/b=3\/b=4\/b=5:=by omega
  rcases this with rfl|rfl|rfl|rfl|rfl|rfl<;>rfl
 eh:=fun r hr b hb=>by simp[Bg.begin] at hr;subst hr;exact .inl (Rz hb)
theorem DN {α:Type}{l:List α}{i j:Nat}{v d:α}(hi:i<l.length):(l.set i v)[j]?.getD d=if i=j then v else l[j]?.getD d:=by
 rw[List.getElem?_set]
 by_cases e:i=j
 ·subst e;rw[if_pos rfl,if_pos hi,if_pos rfl];rfl
 ·rw[if_neg e,if_neg e]
theorem Cz {l:List (List Int)}{i:Nat}(h:i<l.length):l[i]?.getD []∈l:=by rw[List.getElem?_eq_getElem h];exact List.getElem_mem h
theorem MM {c:A0}{s:Bg}(h:s.Inv c) {e b:Nat}(he:e<s.eps.length) (hb:b<6):(s.write e b).Inv c:=by
 unfold Bg.write
 split
 ·exact h
 ·rename_i hn
  have hm:=Cz he
  have hrl:=h.el _ hm
  have hent:UF c b (s.ent e b):=(h.eh _ hm b hb).resolve_left hn
  refine⟨?_,?_,fun r hr=>?_,fun b' hb'=>?_,fun r hr b' hb'=>?_⟩
  ·simp[h.ml]
  ·simpa using h.ne
  ·rcases List.mem_or_eq_of_mem_set hr with hr|rfl
   ·exact h.el r hr
   ·simpa using hrl
  ·show (s.med.set b (s.ent e b))[b']?.getD 0=-1\/UF c b' ((s.med.set b (s.ent e b))[b']?.getD 0)
   rw[DN (by rw[h.ml];exact hb)]
   by_cases e1:b=b'
   ·subst e1;rw[if_pos rfl];exact .inr hent
   ·rw[if_neg e1];exact h.mh b' hb'
  ·rcases List.mem_or_eq_of_mem_set hr with hr|rfl
   ·exact h.eh r hr b' hb'
   ·rw[DN (by rw[hrl];exact hb)]
    by_cases e1:b=b'
    ·rw[if_pos e1];exact .inl rfl
    ·rw[if_neg e1];exact h.eh _ hm b' hb'
theorem CY (s:Bg) (e b:Nat):(s.write e b).eps.length=s.eps.length:=by unfold Bg.write;split<;>simp
theorem K0 (s:Bg) (e:Nat):∀b,(s.wrB e b).eps.length=s.eps.length
 |0=>rfl
 |b+1=>by rw[Bg.wrB,CY,K0 s e b]
theorem Dc (s:Bg):∀e,(s.wrE e).eps.length=s.eps.length
 |0=>rfl
 |e+1=>by rw[Bg.wrE,K0,Dc s e]
theorem Ud {c:A0}{s:Bg}(h:s.Inv c) {e:Nat}(he:e<s.eps.length):∀b,b<=6->(s.wrB e b).Inv c
 |0,_=>h
 |b+1,hb=>MM (Ud h he b (by omega)) (by rw[K0];exact he) (by omega)
theorem Qf {c:A0}{s:Bg}(h:s.Inv c):∀e,e<=s.eps.length->(s.wrE e).Inv c
 |0,_=>h
 |e+1,he=>Ud (Qf h e (by omega)) (by rw[Dc];omega) 6 (Nat.le_refl _)
theorem R' {c:A0}{s:Bg}(h:s.Inv c) {b:Nat}{n:Int}(hb:b<6) (hn:UF c b n):(s.setL b n).Inv c:=by
 have hl:s.last<s.eps.length:=by have:=h.ne;unfold Bg.last;omega
 have hm:=Cz hl
 have hrl:=h.el _ hm
 refine⟨h.ml,by simpa[Bg.setL] using h.ne,fun r hr=>?_,h.mh,fun r hr b' hb'=>?_⟩
 ·rcases List.mem_or_eq_of_mem_set hr with hr|rfl
  ·exact h.el r hr
  ·simpa using hrl
 ·rcases List.mem_or_eq_of_mem_set hr with hr|rfl
  ·exact h.eh r hr b' hb'
  ·rw[DN (by rw[hrl];exact hb)]
   by_cases e1:b=b'
   ·subst e1;rw[if_pos rfl];exact .inr hn
   ·rw[if_neg e1];exact h.eh _ hm b' hb'
theorem R_ {c:A0}{s:Bg}(h:s.Inv c):s.tidy.Inv c:=by
 have hl:s.last<s.eps.length:=by have:=h.ne;unfold Bg.last;omega
 have hsub:∀r,r∈s.tidy.eps->r∈s.eps:=fun r hr=>by
  simp only[Bg.tidy,List.mem_append,List.mem_filter,List.mem_singleton] at hr
  rcases hr with hr|hr
  ·exact List.mem_of_mem_take hr.1
  ·subst hr;exact Cz hl
 exact⟨h.ml,by simp[Bg.tidy],fun r hr=>h.el r (hsub r hr),h.mh,fun r hr=>h.eh r (hsub r hr)⟩
theorem Eu {c:A0}(hc:c.ok=true) {n:Nat}(hn:n<c.ords.length):(c.ords[n]?.getD default).ok c.blocks=true:=by
 simp only[A0.ok,Bool.and_eq_true,List.all_eq_true] at hc
 exact hc.2.2 _ (by rw[List.getElem?_eq_getElem hn];exact List.getElem_mem hn)
theorem Ca {c:A0}(hc:c.ok=true):1<=c.blocks/\c.blocks<=6/\c.ords.length<=16:=by
 simp only[A0.ok,Bool.and_eq_true,Ky,decide_eq_true_eq] at hc
 omega
theorem LN {o:DI}{b:Int}(h:o.ok b=true):o.puts=true->0<=o.blk/\o.blk<=b-1:=fun hp=>by
 simp only[DI.ok,Bool.or_eq_true,Bool.and_eq_true,Ky,decide_eq_true_eq] at h
 rcases h with h|h
 ·exact h.2
 ·simp only[DI.puts,Bool.or_eq_true,decide_eq_true_eq] at hp;omega
theorem Va {c:A0}(hc:c.ok=true) {s:Bg}(h:s.Inv c) {n:Nat}(hn:n<c.ords.length):(s.order (n:Int) (c.ords[n]?.getD default)).Inv c:=by
 have hb:=Ca hc
 have ho:=Eu hc hn
 obtain⟨o,hoe⟩:∃o,c.ords[n]?.getD default=o:=⟨_,rfl⟩
 have hold:o.puts=true->o.blk.toNat<6/\UF c o.blk.toNat (n:Int):=fun hp=>by
  rw[hoe] at ho
  have:=LN ho hp
  refine⟨by omega,by omega,by omega,?_,?_⟩
  ·rw[Int.toNat_natCast,hoe];exact hp
  ·rw[Int.toNat_natCast,hoe];omega
 rw[hoe]
 unfold Bg.order
 apply R_
 have hlast:∀{t:Bg},t.Inv c->t.last<t.eps.length:=fun {t} ht=>by have:=ht.ne;unfold Bg.last;omega
 by_cases k1:o.kind=1
 ·obtain⟨h1,h2⟩:=hold (by simp[DI.puts,k1])
  rw[if_pos k1];exact R' h h1 h2
 rw[if_neg k1]
 by_cases k2:o.kind=2
 ·obtain⟨h1,h2⟩:=hold (by simp[DI.puts,k2])
  have hs:=R' h h1 h2
  rw[if_pos k2]
  have hl:=hlast hs
  exact MM (Qf hs _ (by omega)) (by rw[Dc];exact hl) h1
 rw[if_neg k2]
 by_cases k3:o.kind=3
 ·rw[if_pos k3]
  refine⟨h.ml,by simp,fun r hr=>?_,h.mh,fun r hr b hb=>?_⟩
  ·simp only[List.mem_append,List.mem_singleton] at hr
   rcases hr with hr|rfl
   ·exact h.el r hr
   ·rfl
  ·simp only[List.mem_append,List.mem_singleton] at hr
   rcases hr with hr|rfl
   ·exact h.eh r hr b hb
   ·exact .inl (Rz hb)
 rw[if_neg k3]
 by_cases k4:o.kind=4
 ·rw[if_pos k4];exact Qf h _ (Nat.le_refl _)
 ·rw[if_neg k4];exact h
theorem OE {c:A0}(hc:c.ok=true) {s:Bg}(h:s.Inv c) {a:Nat}:∀k,a+k<=c.ords.length->(s.ordN c a k).Inv c
 |0,_=>h
 |k+1,hk=>Va hc (OE hc h k (by omega)) (by omega)
theorem Vb {c:A0}{s:Bg}(h:s.Inv c) {b:Nat}(hb:b<6):(s.drain b).Inv c:=by
 unfold Bg.drain
 refine R_ (MM h ?_ hb)
 cases hf:s.first with
 |none=>have:=h.ne;simp;omega
 |some e =>
  unfold Bg.first at hf
  rw[List.findIdx?_eq_some_iff_getElem] at hf
  exact hf.1
theorem MN {c:A0}(hc:c.ok=true):∀(l:List G5) (s:Bg) (a:Nat),a<=c.ords.length->s.Inv c->∀{t a'},Fx c l s a=some (t,a')->t.Inv c/\a'<=c.ords.length/\∀d,d∈l->0<=d.blk/\d.blk<=c.blocks-1
 |[],s,a,ha,h,t,a',e=>by
  simp only[Fx,Option.some.injEq,Prod.mk.injEq] at e
  obtain⟨rfl,rfl⟩:=e
  exact⟨h,ha,fun d hd=>by cases hd⟩
 |d::l,s,a,ha,h,t,a',e=>by
  have hb:=Ca hc
  unfold Fx at e
  split at e
  ·rename_i hg
   simp only[Bool.and_eq_true,decide_eq_true_eq,Ky] at hg
   dsimp only at e
   split at e
   ·have h1:=OE hc h (a:=a) (d.aft.toNat-a) (by omega)
    obtain⟨k1,k2,k3⟩:=MN hc l _ _ (by omega) (Vb h1 (b:=d.blk.toNat) (by omega)) e
    refine⟨k1,k2,fun x hx=>?_⟩
    rcases List.mem_cons.1 hx with rfl|hx
    ·exact hg.2
    ·exact k3 x hx
   ·cases e
  ·cases e
theorem Gg {c:A0}{ds:List G5}{torn:Bool}(h:EF c ds torn=0):(DW c ds torn).length=c.blocks.toNat /\
  ∀b,b<c.blocks.toNat->(DW c ds torn)[b]?.getD 0=-1\/(DW c ds torn)[b]?.getD 0=-2\/UF c b ((DW c ds torn)[b]?.getD 0):=by
 have hL:DW c ds torn=((Rm c ds torn).getD []).take c.blocks.toNat:=by unfold DW;rw[if_pos h]
 unfold EF at h
 cases hc:c.ok with
 |false=>rw[hc] at h;simp at h
 |true =>
 rw[hc] at h
 simp only[Bool.not_true,Bool.false_eq_true,if_false] at h
 split at h
 ·omega
 rename_i hg
 split at h
 ·omega
 rename_i hp
 have hb:=Ca hc
 cases hd:Fx c ds Bg.begin 0 with
 |none=>unfold Rm at hp;rw[hd] at hp;simp at hp
 |some p =>
  obtain⟨s,a⟩:=p
  obtain⟨k1,k2,k3⟩:=MN hc ds Bg.begin 0 (Nat.zero_le _) (Pv c) hd
  have k4:=OE hc k1 (a:=a) (c.ords.length-a) (by omega)
  obtain⟨u,hu⟩:∃u,s.ordN c a (c.ords.length-a)=u:=⟨_,rfl⟩
  rw[hu] at k4
  have hM:(Rm c ds torn).getD []=if torn then u.med.set (ds[ds.length-1]?.getD default).blk.toNat (-2) else u.med:=by unfold Rm;rw[hd];simp only[hu];rfl
  have hml:((Rm c ds torn).getD []).length=6:=by rw[hM];split<;>simp[k4.ml]
  have hget:∀b,b<c.blocks.toNat->(DW c ds torn)[b]?.getD 0=((Rm c ds torn).getD [])[b]?.getD 0:=fun b hbb=>by rw[hL,List.getElem?_take,if_pos hbb]
  refine⟨by rw[hL,List.length_take,hml];omega,fun b hbb=>?_⟩
  rw[hget b hbb,hM]
  cases torn with
  |false=>simp only[Bool.false_eq_true,if_false];exact(k4.mh b (by omega)).imp id .inr
  |true =>
   simp only[if_true]
   by_cases hlt:(ds[ds.length-1]?.getD default).blk.toNat<u.med.length
   ·rw[DN hlt]
    split
    ·exact .inr (.inl rfl)
    ·exact(k4.mh b (by omega)).imp id .inr
   ·rw[List.set_eq_of_length_le (by omega)]
    exact(k4.mh b (by omega)).imp id .inr
end Go.Pw
end
section
open Go Go.Pw Go.Proofs
namespace Go.Pw
set_option maxRecDepth 100000
set_option maxHeartbeats 1600000
def ar (o:DI):List D:=[.int .i64 o.kind,.int .i64 o.blk]
def N6 (o:DI):D:=.agg (ar o)
def Ib (l:List DI):List D:=l.map N6
def Mb (c:A0):List D:=[.int .i64 c.blocks,.list c.on (Ib c.ords)]
def Fu (c:A0):D:=.agg (Mb c)
def Ze (d:G5):D:=.agg [.int .i64 d.aft,.int .i64 d.blk]
def OL (l:List G5):List D:=l.map Ze
theorem Ah (o:DI):ar o=[.int .i64 o.kind,.int .i64 o.blk]:=rfl
theorem Ag (o:DI):N6 o=.agg (ar o):=rfl
theorem AF (c:A0):Mb c=[.int .i64 c.blocks,.list c.on (Ib c.ords)]:=rfl
theorem AP (c:A0):Fu c=.agg (Mb c):=rfl
theorem CT (d:G5):Ze d=.agg [.int .i64 d.aft,.int .i64 d.blk]:=rfl
theorem AG (l:List DI):(Ib l).length=l.length:=by simp[Ib]
theorem BA (l:List DI):C9 2 (Ib l)=True:=I0 fun _=>rfl
theorem A_ {l:List DI}{i:Nat}{A:D->Prop}:Bc (Ib l)[i]? A=(i<l.length/\A (N6 (l[i]?.getD default))):=FF
theorem Az (l:List G5):(OL l).length=l.length:=by simp[OL]
theorem BO (l:List G5):C9 2 (OL l)=True:=I0 fun _=>rfl
theorem BG {l:List G5}{i:Nat}{A:D->Prop}:Bc (OL l)[i]? A=(i<l.length/\A (Ze (l[i]?.getD default))):=FF
def A0.check (c:A0):Int:=if c.ok then 0 else 80
def A0.far (c:A0):Bool:=decide (40<c.ords.length) || (c.ok && (decide (3<c.blocks) || decide (7<c.ords.length)))
attribute [local congr] DP B9 B_ Bj DR Bn Bp Bo Bi BW BQ BF Bl BR BU Bm BV CC Cg BT CE CF CD CA CB B8 DQ B' Bk BS
attribute [local irreducible] IntKind.wrap CG Option.getD and or
theorem DV (n lo hi:Int):D6 E0 Jl [.int .i64 n,.int .i64 lo,.int .i64 hi] (.bool (Ky n lo hi)):=by
 refine Ap MW A' (by simp) fun hwf=>?_
 rw[Av];unfold IY Ky
 (try (simp -implicitDefEqProofs only[go_sem]));repeat' first|(with_reducible first|exact tI|refine aI ?_ ?_|intro _)|((first|with_reducible refine Ad ?_ ?_<;>intro _)<;>try (simp -implicitDefEqProofs only[go_sem]))|simp (disch:=omega) only[A7]
 all_goals first|omega|(simp_all;done)|(simp_all;omega)
theorem En (n lo hi:Int):D6 E0 Jj [.int .i64 n,.int .i64 lo,.int .i64 hi] (.bool (Ky n lo hi)):=by
 refine Ap MT A' (by simp) fun hwf=>?_
 rw[Av];unfold IV Ky
 (try (simp -implicitDefEqProofs only[go_sem]));repeat' first|(with_reducible first|exact tI|refine aI ?_ ?_|intro _)|((first|with_reducible refine Ad ?_ ?_<;>intro _)<;>try (simp -implicitDefEqProofs only[go_sem]))|simp (disch:=omega) only[A7]
 all_goals first|omega|(simp_all;done)|(simp_all;omega)
theorem Ja (o:DI):D6 E0 L4 [N6 o] (.bool o.puts):=by
 refine Ap OW A' (by simp) fun hwf=>?_
 obtain⟨k,b⟩:=o
 rw[Av];unfold KH DI.puts
 by_cases h:k=1
 ·subst h
  (try (simp -implicitDefEqProofs only[go_sem,Ag,Ah,decide_true]));repeat' first|(with_reducible first|exact tI|refine aI ?_ ?_|intro _)|((first|with_reducible refine Ad ?_ ?_<;>intro _)<;>try (simp -implicitDefEqProofs only[go_sem,Ag,Ah,decide_true]))|simp (disch:=omega) only[A7]
  all_goals first|rfl|(simp;done)|(simp_all;done)|skip
 ·(try (simp -implicitDefEqProofs only[go_sem,Ag,Ah,h,decide_false]));repeat' first|(with_reducible first|exact tI|refine aI ?_ ?_|intro _)|((first|with_reducible refine Ad ?_ ?_<;>intro _)<;>try (simp -implicitDefEqProofs only[go_sem,Ag,Ah,h,decide_false]))|simp (disch:=omega) only[A7]
  all_goals first|rfl|(simp;done)|(simp_all;done)|skip
theorem Ge (o:DI):D6 E0 L0 [N6 o] (.bool o.puts):=by
 refine Ap OS A' (by simp) fun hwf=>?_
 obtain⟨k,b⟩:=o
 rw[Av];unfold KD DI.puts
 by_cases h:k=1
 ·subst h
  (try (simp -implicitDefEqProofs only[go_sem,Ag,Ah,decide_true]));repeat' first|(with_reducible first|exact tI|refine aI ?_ ?_|intro _)|((first|with_reducible refine Ad ?_ ?_<;>intro _)<;>try (simp -implicitDefEqProofs only[go_sem,Ag,Ah,decide_true]))|simp (disch:=omega) only[A7]
  all_goals first|rfl|(simp;done)|(simp_all;done)|skip
 ·(try (simp -implicitDefEqProofs only[go_sem,Ag,Ah,h,decide_false]));repeat' first|(with_reducible first|exact tI|refine aI ?_ ?_|intro _)|((first|with_reducible refine Ad ?_ ?_<;>intro _)<;>try (simp -implicitDefEqProofs only[go_sem,Ag,Ah,h,decide_false]))|simp (disch:=omega) only[A7]
  all_goals first|rfl|(simp;done)|(simp_all;done)|skip
theorem Ls (c:A0) (o:DI) (hb:1<=c.blocks/\c.blocks<=6):D6 E0 FE [N6 o,.ptr (Mb c)] (.bool (o.ok c.blocks)):=by
 refine Ap Lm A' (by simp) fun hwf=>?_
 have c1:=Ja o
 have w1:IntKind.i64.wrap (c.blocks-1)=c.blocks-1:=BN _ (by omega)
 have c2:=DV o.blk 0 (c.blocks-1)
 obtain⟨k,b⟩:=o
 rw[Ag,Ah] at c1
 rw[Av];unfold Hg DI.ok
 simp only at c2 ⊢
 obtain⟨p,hp⟩:∃p,DI.puts ⟨k,b⟩=p:=⟨_,rfl⟩
 obtain⟨q,hq⟩:∃q,Ky b 0 (c.blocks-1)=q:=⟨_,rfl⟩
 rw[hp] at c1 ⊢;rw[hq] at c2 ⊢
 by_cases h3:k=3
 ·subst h3
  cases p<;>cases q
  all_goals ((try (simp -implicitDefEqProofs only[go_sem,Ag,Ah,AF,w1,decide_true]));repeat' first|(with_reducible first|exact tI|refine aI ?_ ?_|intro _)|((first|with_reducible refine Ad ?_ ?_<;>intro _|(with_reducible refine isCall ?_);first|refine AH c1 ?_|refine AH c2 ?_)<;>try (simp -implicitDefEqProofs only[go_sem,Ag,Ah,AF,w1,decide_true]))|simp (disch:=omega) only[A7] )
  all_goals first|rfl|(simp;done)|(simp_all;done)|skip
 ·by_cases h4:k=4
  ·subst h4
   cases p<;>cases q
   all_goals ((try (simp -implicitDefEqProofs only[go_sem,Ag,Ah,AF,w1,decide_true,decide_false]));repeat' first|(with_reducible first|exact tI|refine aI ?_ ?_|intro _)|((first|with_reducible refine Ad ?_ ?_<;>intro _|(with_reducible refine isCall ?_);first|refine AH c1 ?_|refine AH c2 ?_)<;>try (simp -implicitDefEqProofs only[go_sem,Ag,Ah,AF,w1,decide_true,decide_false]))|simp (disch:=omega) only[A7] )
   all_goals first|rfl|(simp;done)|(simp_all;done)|skip
  ·cases p<;>cases q
   all_goals ((try (simp -implicitDefEqProofs only[go_sem,Ag,Ah,AF,w1,h3,h4,decide_true,decide_false]));repeat' first|(with_reducible first|exact tI|refine aI ?_ ?_|intro _)|((first|with_reducible refine Ad ?_ ?_<;>intro _|(with_reducible refine isCall ?_);first|refine AH c1 ?_|refine AH c2 ?_)<;>try (simp -implicitDefEqProofs only[go_sem,Ag,Ah,AF,w1,h3,h4,decide_true,decide_false]))|simp (disch:=omega) only[A7] )
   all_goals first|rfl|(simp;done)|(simp_all;done)|skip
theorem Lr (c:A0) (o:DI) (hb:1<=c.blocks/\c.blocks<=6):D6 E0 GM [N6 o,.ptr [.fn FE [.ptr (Mb c)]]] (.bool (!o.ok c.blocks)):=by
 refine Ap Ll A' (by simp) fun hwf=>?_
 have c1:=Ls c o hb
 rw[Av];unfold Hf
 obtain⟨p,hp⟩:∃p,o.ok c.blocks=p:=⟨_,rfl⟩
 rw[hp] at c1 ⊢
 cases p
 all_goals ((try (simp -implicitDefEqProofs only[go_sem,Ag,Ah]));repeat' first|(with_reducible first|exact tI|refine aI ?_ ?_|intro _)|((first|with_reducible refine Ad ?_ ?_<;>intro _|(with_reducible refine isCall ?_);first|refine AH c1 ?_)<;>try (simp -implicitDefEqProofs only[go_sem,Ag,Ah]))|simp (disch:=omega) only[A7] )
 all_goals first|rfl|kernel_rfl|skip
theorem PH (nl:Bool) (xs:List DI) (f:FuncId) (cs:List D) (p:DI->Bool) (hb:Cl E0.P f=true) (hcs:BD AV.toD1 (cs.map .d)=some cs) (h:∀x,x∈xs->D6 E0 f (N6 x::cs) (.bool (p x))) :
  D6 E0 DC [.list nl (Ib xs),.fn f cs] (.int .i64 (match xs.findIdx? p with|some i=>i|none=>-1)):=by
 refine Ap EU A' (by simp) fun hwf=>?_
 simp only[Fm,FB,FA,El,GD,GC,IK,GB,Cy,DF,DG,FD,Di,List.length_map,Dn,true_and,and_true,AG] at hwf
 rw[Av];unfold C8
 simp -implicitDefEqProofs only[go_sem,AG]
 refine BZ (α:=Int) (l0:=?l1) (m0:=?m1) (fun x=>[(8,.d (.int .i64 x))]) (fun x=>[]) (fun x=>0<=x/\x<=xs.length/\∀(j:Nat) (hj:j<xs.length),(j:Int)<x->p xs[j]=false) (fun x=>(xs.length-x).toNat) ?a1_0 ?h01 ?he1 ?he21 ?hI1 ?step1
 case h01=>(simp -implicitDefEqProofs only[go_sem,AG];rfl)
 case he1=>rfl
 case he21=>rfl
 case' step1=>(rintro i hI;try dsimp only at hI)
 case' hI1=>try dsimp only
 ·simp
  omega
 ·(try (simp -implicitDefEqProofs only[go_sem,AG,BA,A_,Ag,Ah]));repeat' first|(with_reducible first|exact tI|refine aI ?_ ?_|intro _)|((first|with_reducible refine Ad ?_ ?_<;>intro _)<;>try (simp -implicitDefEqProofs only[go_sem,AG,BA,A_,Ag,Ah]))|simp (disch:=omega) only[A7]|((with_reducible refine BL ?_);refine⟨_,rfl,?_,?_⟩)
  all_goals first|omega|(simp<;>omega)|skip
  ·have hx:xs[i.toNat]?.getD default=xs[i.toNat]'(by omega):=by rw[List.getElem?_eq_getElem (by omega),Option.getD_some]
   rw[hx]
   refine T7 (h _ (List.getElem_mem _)) (Jd rfl hcs) (fun hp=>?_) (fun hp=>?_)
   ·simp -implicitDefEqProofs only[go_sem]
    have:xs.findIdx? p=some i.toNat:=by rw[List.findIdx?_eq_some_iff_getElem];exact⟨by omega,hp,fun j hj=>by simp[hI.2.2 j (by omega) (by omega)]⟩
    rw[this];simp;omega
   ·(try (simp -implicitDefEqProofs only[go_sem,AG]));repeat' first|(with_reducible first|exact tI|refine aI ?_ ?_|intro _)|((first|with_reducible refine Ad ?_ ?_<;>intro _)<;>try (simp -implicitDefEqProofs only[go_sem,AG]))|simp (disch:=omega) only[A7]|((with_reducible refine BL ?_);refine⟨_,rfl,?_,?_⟩)
    all_goals first|omega|(simp<;>omega)|skip
    rename_i j hj hlt
    by_cases hjk:j=i.toNat
    ·subst hjk;exact hp
    ·exact hI.2.2 j hj (by omega)
  ·have:xs.findIdx? p=none:=by
    rw[List.findIdx?_eq_none_iff];intro x hx;obtain⟨j,hj,rfl⟩:=List.getElem_of_mem hx;exact hI.2.2 j hj (by omega)
   rw[this]
theorem Me (nl:Bool) (xs:List DI) (f:FuncId) (cs:List D) (p:DI->Bool) (hb:Cl E0.P f=true) (hcs:BD AV.toD1 (cs.map .d)=some cs) (h:∀x,x∈xs->D6 E0 f (N6 x::cs) (.bool (p x))) :
  D6 E0 C1 [.list nl (Ib xs),.fn f cs] (.bool (xs.any p)):=by
 refine Ap D9 A' (by simp) fun hwf=>?_
 rw[Av];unfold Cr
 simp -implicitDefEqProofs only[go_sem]
 refine Qx (PH nl xs f cs p hb hcs h) rfl ?_
 simp -implicitDefEqProofs only[go_sem]
 have key:(0:Int)<=(match xs.findIdx? p with|some i=>(i:Int)|none=>-1)↔xs.any p=true:=by
  cases hf:xs.findIdx? p with
  |none=>rw[List.findIdx?_eq_none_iff] at hf;simp;intro x hx;simp[hf x hx]
  |some i=>rw[List.findIdx?_eq_some_iff_getElem] at hf;simp;exact⟨_,List.getElem_mem hf.1,hf.2.1⟩
 grind
end Go.Pw
end
section
namespace Go.Pw
def du:Ty:=.str [.int .i64,.int .i64]
def T9:Ty:=.str [.int .i64,.list (.str [.int .i64,.int .i64])]
def Xs:Ty:=.str [.list (.str [.int .i64,.int .i64]),.bool]
theorem Q_ {x:D}(h:Md T9 x):∃c,x=Fu c:=by
 obtain⟨h,hx⟩:=h
 obtain⟨_,_,e1,h1,h⟩:=Bt h
 obtain⟨_,_,e2,h2,h⟩:=Bt h
 obtain rfl:=GY h
 obtain⟨n1,rfl⟩:=DT h1
 obtain⟨nl,l,rfl,_⟩:=G8 N6 (fun cs h=>by obtain⟨a,b,rfl⟩:=K2 h;exact⟨⟨a,b⟩,rfl⟩) h2
 subst e2
 rw[e1] at hx
 exact⟨⟨n1,nl,l⟩,hx⟩
theorem Sr {x:D}(h:Md Xs x):∃nd ds torn,x=.agg [.list nd (OL ds),.bool torn]:=by
 obtain⟨h,hx⟩:=h
 obtain⟨_,_,e1,h1,h⟩:=Bt h
 obtain⟨_,_,e2,h2,h⟩:=Bt h
 obtain rfl:=GY h
 obtain⟨nl,l,rfl,_⟩:=G8 Ze (fun cs h=>by obtain⟨a,b,rfl⟩:=K2 h;exact⟨⟨a,b⟩,rfl⟩) h1
 obtain⟨b,rfl⟩:=Ng h2
 subst e2
 rw[e1] at hx
 exact⟨nl,l,b,hx⟩
end Go.Pw
end

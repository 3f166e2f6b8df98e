/- A part of the proof. -/
import Derived.Test.YtpcpcjbbdgmohaaDoorPgTwcM
import Derived.Test.YtpcpcjbbdgmohaaDoorPgTwcD
set_option linter.all false
section
open Go Go.Pw Go.Proofs
namespace Go.Pw
theorem Wu:∀n:Fin 6,∀x y:Fin 32,(x.val<2^n.val/\y.val<2^n.val/\CW n.val x.val=CW n.val y.val)->x=y:=by decide +kernel
theorem ZU {n:Nat}(hn:n<=5) {x y:Int}(hx:0<=x/\x<=2^n-1) (hy:0<=y/\y<=2^n-1) (h:CW n x=CW n y):x=y:=by
 have h32:(2:Int)^n<=32:=by
  have:n=0\/n=1\/n=2\/n=3\/n=4\/n=5:=by omega
  rcases this with h|h|h|h|h|h<;>rw[h]<;>decide
 have hc:((2^n:Nat):Int)=2^n:=by simp
 have e1:((x.toNat:Nat):Int)=x:=by omega
 have e2:((y.toNat:Nat):Int)=y:=by omega
 have:=Wu ⟨n,by omega⟩ ⟨x.toNat,by omega⟩ ⟨y.toNat,by omega⟩ ⟨by simp only;omega,by simp only;omega,by simp only[e1,e2];exact h⟩
 have:=congrArg Fin.val this
 simp only at this;omega
theorem Hk {f:List Bo->Int->List Bo}{z:Bo}(hm:∀out x,z∈out->z∈f out x):∀(n:Nat) (i:Int) (out:List Bo),(z∈out\/∃j,i<=j/\j<i+n/\∀out,z∈f out j)->z∈Fx f n i out
 |0,i,out,h=>by
  rcases h with h|⟨j,h1,h2,_⟩
  ·exact h
  ·omega
 |n+1,i,out,h=>by
  simp only[Fx]
  refine Hk hm n (i+1) _ ?_
  rcases h with h|⟨j,h1,h2,h3⟩
  ·exact .inl (hm _ _ h)
  ·by_cases hj:j=i
   ·subst hj;exact .inl (h3 _)
   ·exact .inr ⟨j,by omega,by omega,h3⟩
theorem Pp {f:List Bo->Bo->List Bo}{z p:Bo}(hm:∀out x,z∈out->z∈f out x) (hp:∀out,z∈f out p):∀(l out:List Bo),(z∈out\/p∈l)->z∈l.foldl f out
 |[],out,h=>by
  rcases h with h|h
  ·exact h
  ·cases h
 |x::l,out,h=>by
  simp only[List.foldl_cons]
  refine Pp hm hp l _ ?_
  rcases h with h|h
  ·exact .inl (hm _ _ h)
  ·rcases List.mem_cons.1 h with rfl|h
   ·exact .inl (hp _)
   ·exact .inr h
theorem R7 (c:GCode) {d:Bool}{p:Bo}{a:Int}{out:List Bo}{b:Int}{z:Bo}(h:z∈out):z∈c.lvl d p a out b:=by
 unfold GCode.lvl;split
 ·exact List.mem_append_left _ h
 ·exact h
theorem Pl (c:GCode) {d:Bool}{p:Bo}{out:List Bo}{a:Int}{z:Bo}(h:z∈out):z∈c.lvlA d p out a :=
 Hk (fun _ _ h=>R7 c h) _ _ _ (.inl h)
theorem Vx (c:GCode) {d:Bool}{p:Bo}{out:List Bo}{z:Bo}(h:z∈out):z∈c.lvlP d out p :=
 Hk (fun _ _ h=>Pl c h) _ _ _ (.inl h)
theorem V5 (c:GCode) {d:Bool}{l:List Bo}{p:Bo}{a b:Int}(hp:p∈l) (ha:0<=a/\a<c.W) (hb:0<=b/\b<c.W) (he:c.wrd p.1 a=c.wrd p.2 b) (hd:a≠b\/d=false):(c.nxt p.1 a,c.nxt p.2 b)∈c.level l d:=by
 refine Pp (p:=p) (fun _ _ h=>Vx c h) (fun out=>?_) l [] (.inr hp)
 refine Hk (fun _ _ h=>Pl c h) _ _ _ (.inr ⟨a,by omega,by omega,fun out=>?_⟩)
 refine Hk (fun _ _ h=>R7 c h) _ _ _ (.inr ⟨b,by omega,by omega,fun out=>?_⟩)
 unfold GCode.lvl
 by_cases hin:(c.nxt p.1 a,c.nxt p.2 b)∈out
 ·rw[if_neg fun h=>h.2.2 hin];exact hin
 ·rw[if_pos ⟨he,hd,hin⟩];simp
def GCode.lev (c:GCode):Nat->List Bo
 |0=>c.pairs0
 |j+1=>c.level (c.lev j) (decide ((j:Int)+1=1))
theorem Nz (c:GCode):∀(n:Nat) (k:Nat) (now:List Bo) (r:Int),now=c.lev k->c.orderF n ((k:Int)+1) now=(r,0)->1<=r/\c.lev r.toNat=[]
 |0,k,now,r,hn,h=>by simp[GCode.orderF] at h
 |n+1,k,now,r,hn,h=>by
  simp only[GCode.orderF] at h
  have hl:c.level now (decide ((k:Int)+1=1))=c.lev (k+1):=by rw[hn];rfl
  rw[hl] at h
  split at h
  ·rename_i he
   simp at h;subst h
   exact⟨by omega,by rw[show ((k:Int)+1).toNat=k+1 by omega];exact he⟩
  ·exact Nz c n (k+1) _ r rfl (by simpa using h)
theorem MM (c:GCode) (h:c.ok=true):c.order.2=0\/c.order.2=3:=by
 have:∀(n:Nat) (k:Int) (now:List Bo),(c.orderF n k now).2=0\/(c.orderF n k now).2=3:=by
  intro n
  induction n with
  |zero=>intro k now;exact .inr rfl
  |succ n ih =>
   intro k now;simp only[GCode.orderF];split
   ·exact .inl rfl
   ·exact ih _ _
 simp only[GCode.order,h];exact this _ _ _
theorem Pe (c:GCode) (h:c.ok=true) (he:c.order.2=0):1<=c.order.1/\c.lev c.order.1.toNat=[]:=by
 have ho:c.order=c.orderF (c.words.length*c.words.length+1) 1 c.pairs0:=by simp[GCode.order,h]
 refine Nz c (c.words.length*c.words.length+1) 0 c.pairs0 c.order.1 rfl ?_
 rw[show ((0:Nat):Int)+1=1 by omega,←ho,←he]
theorem GCode.wrd_range (c:GCode) (h:c.ok=true) {s w:Int}(hs:c.isState s=true) (hw:c.isWord w=true):0<=c.wrd s w/\c.wrd s w<=2^c.out.toNat-1:=by
 have hd:=GCode.ok_head h
 have hWe:=GCode.W_eq' c
 simp only[GCode.isState,GCode.isWord,Dp,decide_eq_true_eq] at hs hw
 obtain⟨h1,h2⟩:=GCode.ok_words h s.toNat (by omega)
 refine h2 _ (D7 ?_)
 rw[h1]
 have:((2^c.bits.toNat:Nat):Int)=2^c.bits.toNat:=by simp
 omega
theorem ck (c:GCode) (h:c.ok=true):∀(l d:List Int) (j:Nat) (s1 s2:Int),(s1,s2)∈c.lev j->c.isState s1=true->c.isState s2=true->(j=0->l[0]?≠d[0]?\/l=[])->l.length=d.length->(c.stream s1 l).1=(c.stream s2 d).1 ->
  (∀w,w∈l->c.isWord w=true)->(∀w,w∈d->c.isWord w=true)->∀i,i<=l.length->c.lev (j+i)≠[]
 |l,d,j,s1,s2,hp,hs1,hs2,hh,hl,hst,hwl,hwd,0,_=>fun e=>by simp at e;rw[e] at hp;cases hp
 |[],_,_,_,_,_,_,_,_,_,_,_,_,i+1,hi=>by simp at hi
 |a::l,[],_,_,_,_,_,_,_,hl,_,_,_,i+1,hi=>by simp at hl
 |a::l,b::d,j,s1,s2,hp,hs1,hs2,hh,hl,hst,hwl,hwd,i+1,hi=>by
  have hd:=GCode.ok_head h
  have hWe:=GCode.W_eq' c
  have ha:=hwl a (by simp)
  have hb:=hwd b (by simp)
  simp only[GCode.stream] at hst
  have h1:=En c.out.toNat (c.wrd s1 a)
  have h2:=En c.out.toNat (c.wrd s2 b)
  have hst2:=List.append_inj hst (by rw[h1,h2])
  have he:=ZU (by omega) (GCode.wrd_range c h hs1 ha) (GCode.wrd_range c h hs2 hb) hst2.1
  have hd':a≠b\/decide ((j:Int)+1=1)=false:=by
   by_cases hj:j=0
   ·rcases hh hj with h|h
    ·exact .inl fun e=>h (by simp[e])
    ·cases h
   ·exact .inr (by simp;omega)
  have haw:=ha
  have hbw:=hb
  simp only[GCode.isWord,Dp,decide_eq_true_eq] at haw hbw
  have hm:=V5 c hp (a:=a) (b:=b) (d:=decide ((j:Int)+1=1)) (by omega) (by omega) he hd'
  have:=ck c h l d (j+1) (c.nxt s1 a) (c.nxt s2 b) hm (GCode.nxt_state h hs1 ha) (GCode.nxt_state h hs2 hb) (fun hj=>by omega) (by simpa using hl) hst2.2 (fun w hw=>hwl w (by simp[hw])) (fun w hw=>hwd w (by simp[hw])) i (by simpa using hi)
  rwa [show j+(i+1)=j+1+i by omega]
theorem Pa (c:GCode) (h:c.ok=true) (he:c.order.2=0):∀(l d:List Int) (s:Int),c.isState s=true->l.length=d.length->(c.stream s l).1=(c.stream s d).1->(∀w,w∈l->c.isWord w=true)->(∀w,w∈d->c.isWord w=true) ->
  ∀i:Nat,(i:Int)<l.length-(c.order.1-1)->l[i]?.getD 0=d[i]?.getD 0
 |[],d,s,_,_,_,_,_,i,hi=>by
  have:=(Pe c h he).1
  simp at hi;omega
 |a::l,[],s,_,hl,_,_,_,i,hi=>by simp at hl
 |a::l,b::d,s,hs,hl,hst,hwl,hwd,i,hi=>by
  obtain⟨ho1,ho2⟩:=Pe c h he
  have hab:a=b:=by
   refine Classical.byContradiction fun hne=>?_
   have hp:(s,s)∈c.lev 0:=by
    simp only[GCode.isState,Dp,decide_eq_true_eq] at hs
    simp only[GCode.lev,GCode.pairs0,List.mem_map,List.mem_range]
    exact⟨s.toNat,by omega,by rw[Prod.mk.injEq];omega⟩
   have:=ck c h (a::l) (b::d) 0 s s hp hs hs (fun _=>.inl (by simpa using hne)) hl hst hwl hwd c.order.1.toNat (by simp only[List.length_cons] at hi ⊢;omega)
   rw[Nat.zero_add] at this
   exact this ho2
  subst hab
  cases i with
  |zero=>rfl
  |succ i =>
   simp only[GCode.stream] at hst
   have hst2:=List.append_inj hst rfl
   have:=Pa c h he l d (c.nxt s a) (GCode.nxt_state h hs (hwl a (by simp))) (by simpa using hl) hst2.2 (fun w hw=>hwl w (by simp[hw])) (fun w hw=>hwd w (by simp[hw])) i (by simp only[List.length_cons] at hi;omega)
   simpa using this
end Go.Pw
end
section
open Go Go.Pw Go.Proofs
namespace Go.Pw
set_option maxRecDepth 100000
set_option maxHeartbeats 1600000
attribute [local congr] Bx A9 A_ Au Bz A0 A2 A1 Ar An Ai Ab Av Aj Ax BG BK BI BJ BH BL BD Ay Aw Al Az Am BB BT Ak BE BF BC A' BA B1
attribute [local irreducible] IntKind.wrap BM Option.getD and or
def gZ (o:Option (List Int)):D:=match o with|some l=>.list l.isEmpty (A4 l)|none=>.list true []
def ga (o:Option (List Int)):D:=.bool o.isSome
abbrev gl:=List (Option (List Int))
def GCode.tbl (c:GCode) (bits:List Int) (K:Nat) (q:Nat):gl:=(List.range c.words.length).map fun(s:Nat)=>c.decP bits (K-q) (s:Int) (q:Int)
end Go.Pw
end
section
open Go Go.Pw Go.Proofs
namespace Go.Pw
set_option maxRecDepth 100000
set_option maxHeartbeats 12800000
attribute [local congr] Bx A9 A_ Au Bz A0 A2 A1 Ar An Ai Ab Av Aj Ax BG BK BI BJ BH BL BD Ay Aw Al Az Am BB BT Ak BE BF BC A' BA B1
attribute [local irreducible] IntKind.wrap BM Option.getD and or
end Go.Pw
end
section
open Go Go.Pw Go.Proofs
namespace Go.Pw
set_option maxRecDepth 100000
set_option maxHeartbeats 3200000
attribute [local congr] Bx A9 A_ Au Bz A0 A2 A1 Ar An Ai Ab Av Aj Ax BG BK BI BJ BH BL BD Ay Aw Al Az Am BB BT Ak BE BF BC A' BA B1
attribute [local irreducible] IntKind.wrap BM Option.getD and or
theorem U_ (c:GCode) (s:Int) (bits:List Int) (hok:c.ok=true) (hst:c.isState s=true) (K:Nat) (hK:bits.length/c.out.toNat=K)
  (hg:(BR bits && decide ((bits.length:Int).tmod c.out=0) && decide ((bits.length:Int)<=c.out*24))=true) :
  c.decR s bits=match c.decP bits K s 0 with|some l=>(some l,0)|none=>(none,3):=by
 have h1:=(NU c bits K K s 0 [] (by omega) fun e he=>by cases he).1
 have:c.decR s bits=match (c.decM bits K s 0 []).1 with|some l=>(some l,0)|none=>(none,3):=by
  rw[←hK];simp only[GCode.decR,hok,hst,hg];rfl
 rw[this,h1]
def gO (r:Bool×List Int):Bool×List Int:=(false,r.2)
def gP (c:GCode):GCode:=⟨c.bits,c.out,c.least,c.most,c.words.isEmpty,c.words.map gO,c.next.isEmpty,c.next.map gO⟩
end Go.Pw
end

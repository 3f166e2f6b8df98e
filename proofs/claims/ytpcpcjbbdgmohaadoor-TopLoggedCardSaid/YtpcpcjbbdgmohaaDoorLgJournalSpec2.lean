/- A part of the proof. -/
import Derived.Test.YtpcpcjbbdgmohaaDoorPgLgJournalH
set_option linter.all false
namespace Go.Pw
structure Eb where
 blk:Int
 val:Int
 tail:Int
instance:Inhabited Eb:=⟨⟨0,0,0⟩⟩
def dB (r:Eb):List D:=[.int .i64 r.blk,.int .i64 r.val,.int .i64 r.tail]
def bm (r:Eb):D:=.agg (dB r)
theorem Cn (r:Eb):dB r=[.int .i64 r.blk,.int .i64 r.val,.int .i64 r.tail]:=rfl
theorem Cm (r:Eb):bm r=.agg (dB r):=rfl
def Ow (l:List Eb):List D:=l.map bm
theorem BE (l:List Eb):(Ow l).length=l.length:=by simp[Ow]
theorem CS (l:List Eb):C9 3 (Ow l)=True:=I0 fun _=>rfl
theorem Cc {l:List Eb}{i:Nat}{A:D->Prop}:Bc (Ow l)[i]? A=(i<l.length/\A (bm (l[i]?.getD default))):=FF
def D0 (s:List Bd):Bd:=Gn s s.length
def M8 (s:List Bd):Nat:=(((D0 s).num+1).tmod s.length).toNat
def LG (s:List Bd) (x:Eb):Bd:=⟨(D0 s).num+1,x.blk,x.val,x.tail,false⟩
def Eo (s:List Bd) (x:Eb):List Bd:=s.set (M8 s) (LG s x)
def SN (b:Int) (s:List Bd) (x:Eb):Bool:=EO x.blk 0 (b-1) && (EO x.val 0 999 && EO x.tail (D0 s).tail ((D0 s).num+1))
def GL (b:Int) (s:List Bd) (x:Eb):Int :=
 if SN b s x then (if (D0 s).tail+s.length<=(D0 s).num+1 then 163 else if 999<(D0 s).num+1 then 2 else 0) else 162
def DA (s:List Bd) (es:List Eb):Nat->List Bd
 |0=>s
 |i+1=>Eo (DA s es i) (es[i]?.getD default)
def FV (b:Int) (s:List Bd) (es:List Eb):Nat->Int
 |0=>0
 |i+1=>if FV b s es i=0 then GL b (DA s es i) (es[i]?.getD default) else FV b s es i
def AY.setS (l:AY) (s:List Bd):AY:={ l with slots:=s }
def PO (s:List Bd):List Bd:=s.set (M8 s) E'
theorem DU (l:AY):l.newest=D0 l.slots:=rfl
theorem Ed (l:AY) (s:List Bd):(l.setS s).newest=D0 s:=rfl
theorem I9 (s:List Bd) (x:Eb):(Eo s x).length=s.length:=by simp[Eo]
theorem LH (s:List Bd) (es:List Eb):∀i,(DA s es i).length=s.length
 |0=>rfl
 |i+1=>by rw[DA,I9,LH s es i]
theorem Jw {b:Int}{s:List Bd}{es:List Eb}{i:Nat}(h:FV b s es i≠0):∀j,i<=j->FV b s es j=FV b s es i
 |0,hj=>by rw[show i=0 by omega]
 |j+1,hj=>by
  rcases (show i=j+1\/i<=j by omega) with h1|h1
  ·rw[h1]
  ·have:=Jw h j h1
   rw[FV,this,if_neg h]
theorem EP {b:Int}{s:List Bd}{es:List Eb}{i j:Nat}(h:FV b s es j=0) (hij:i<=j):FV b s es i=0:=by
 by_cases h0:FV b s es i=0
 ·exact h0
 ·rw[Jw h0 j hij] at h;exact absurd h h0
theorem Fs {b:Int}{s:List Bd}{es:List Eb}{i j:Nat}(h:FV b s es j=0) (hij:i<j):GL b (DA s es i) (es[i]?.getD default)=0:=by
 have:=EP h (show i+1<=j by omega)
 rw[FV,EP h (show i<=j by omega),if_pos rfl] at this
 exact this
theorem II {b:Int}{s:List Bd}{x:Eb}(h:GL b s x=0):(0<=x.blk/\x.blk<=b-1)/\(0<=x.val/\x.val<=999)/\((D0 s).tail<=x.tail/\x.tail<=(D0 s).num+1)/\(D0 s).num+1<(D0 s).tail+s.length/\(D0 s).num+1<=999:=by
 unfold GL SN at h
 split at h
 ·rename_i hc
  simp only[Bool.and_eq_true,CR] at hc
  split at h
  ·cases h
  ·split at h
   ·cases h
   ·exact⟨hc.1,hc.2.1,hc.2.2,by omega,by omega⟩
 ·cases h
theorem FS (s:List Bd) (p:Nat) (r:Bd) (i:Nat):(s.set p r)[i]?.getD default=if i=p/\p<s.length then r else s[i]?.getD default:=by
 rw[List.getElem?_set]
 by_cases h:p=i
 ·subst h
  by_cases h2:p<s.length
  ·simp[h2]
  ·simp[h2]
 ·rw[if_neg h,if_neg (by omega)]
theorem Dt {n:Int}{m:Nat}(h0:0<=n) (hm:1<=m):(n.tmod m).toNat<m/\0<=n.tmod m/\((n.tmod m).toNat:Int)=n.tmod m:=by
 have h1:=Int.tmod_nonneg (m:Int) h0
 have h2:=Int.tmod_lt_of_pos n (b:=(m:Int)) (by omega)
 omega
theorem XO {a b:Int}{m:Nat}(h0:0<=a) (h1:a<b) (h2:b-a<m):(a.tmod m).toNat≠(b.tmod m).toNat:=by
 intro h
 have ra:=Dt h0 (show 1<=m by omega)
 have rb:=Dt (show 0<=b by omega) (show 1<=m by omega)
 have e:a.tmod m=b.tmod m:=by omega
 rw[Int.tmod_eq_emod_of_nonneg h0,Int.tmod_eq_emod_of_nonneg (show 0<=b by omega)] at e
 have h3:(b-a)%(m:Int)=0:=Int.emod_eq_emod_iff_emod_sub_eq_zero.1 e.symm
 rw[Int.emod_eq_of_lt (by omega) h2] at h3
 omega
theorem LQ (s:List Bd):∀i j,j<i->(s[j]?.getD default).bad=false->(s[j]?.getD default).num<=(Gn s i).num
 |0,j,h,_=>by omega
 |i+1,j,h,hb=>by
  rw[Gn]
  rcases (show j<i\/j=i by omega) with h1|h1
  ·have:=LQ s i j h1 hb
   split
   ·rename_i hc;simp at hc;omega
   ·exact this
  ·subst h1
   split
   ·exact Int.le_refl _
   ·rename_i hc;rw[hb] at hc;simp at hc;omega
theorem Qd (s:List Bd) (j:Nat) (h:j<s.length) (hb:(s[j]?.getD default).bad=false):(s[j]?.getD default).num<=(D0 s).num:=LQ s _ j h hb
theorem Ru {l:AY}(g:l.Good) {j:Nat}(hj:j<l.slots.length) (hb:(l.slots[j]?.getD default).bad=false) (h0:0<=(l.slots[j]?.getD default).num) (hm:∀i,i<l.slots.length->(l.slots[i]?.getD default).bad=false->(l.slots[i]?.getD default).num<=(l.slots[j]?.getD default).num):D0 l.slots=l.slots[j]?.getD default:=by
 have h1:=Qd l.slots j hj hb
 rcases H5 l.slots l.slots.length (Nat.le_refl _) with h2|⟨i,hi,h2,h3⟩
 ·unfold D0 at h1;rw[h2] at h1;simp[DZ] at h1;omega
 ·have h4:=hm i hi h3
  unfold D0 at h1 ⊢
  rw[h2] at h1 ⊢
  have e:(l.slots[i]?.getD default).num=(l.slots[j]?.getD default).num:=by omega
  have k1:=(g.s i hi h3 (by omega)).2.1
  have k2:=(g.s j hj hb (by omega)).2.1
  rw[e] at k1
  have:i=j:=by omega
  rw[this]
theorem SA {l:AY}(g:l.Good) {p:Nat}{r:Bd}(hr:r.bad=false->r.num≠-1->(0<=r.num/\r.num<=999)/\r.num.tmod l.slots.length=p/\(0<=r.blk/\r.blk<=l.blocks-1)/\(0<=r.val/\r.val<=999)/\(0<=r.tail/\r.tail<=r.num)):(l.setS (l.slots.set p r)).Good:=by
 refine⟨g.d,g.b1,g.b2,by simpa[AY.setS] using g.m1,by simpa[AY.setS] using g.m2,g.f1,by simpa[AY.setS] using g.f2,fun i hi=>?_⟩
 simp only[AY.setS,List.length_set] at hi ⊢
 rw[FS]
 split
 ·rename_i h;rw[h.1];exact hr
 ·exact g.s i hi
theorem QA (l:AY):∀n,l.allOk n=true↔∀i,i<n->Ec l.blocks l.slots.length i (l.slots[i]?.getD default)=true
 |0=>by simp[AY.allOk]
 |n+1=>by
  rw[AY.allOk,Bool.and_eq_true,QA l n]
  constructor
  ·intro h i hi
   rcases (show i<n\/i=n by omega) with h1|h1
   ·exact h.1 i h1
   ·subst h1;exact h.2
  ·intro h;exact⟨fun i hi=>h i (by omega),h n (by omega)⟩
theorem P6 {l:AY}(hc:l.check=0) {p:Nat}{r:Bd}(hr:Ec l.blocks l.slots.length p r=true):(l.setS (l.slots.set p r)).check=0:=by
 rw[AY.check_ok] at hc ⊢
 unfold AY.ok at hc ⊢
 simp only[Bool.and_eq_true] at hc ⊢
 obtain⟨h1,h2,h3⟩:=hc
 refine⟨h1,?_,?_⟩
 ·unfold AY.head at h2 ⊢
  simpa[AY.setS] using h2
 ·rw[QA] at h3 ⊢
  intro i hi
  simp only[AY.setS,List.length_set] at hi ⊢
  rw[FS]
  split
  ·rename_i h;rw[h.1];exact hr
  ·exact h3 i hi
theorem UA {l:AY}{p:Nat}{r:Bd}{n:Int}(h0:0<=n) (hm:1<=l.slots.length):(l.setS (l.slots.set p r)).at' n=if (n.tmod l.slots.length).toNat=p then r else l.at' n:=by
 unfold AY.at' AY.setS
 simp only[List.length_set]
 rw[FS]
 have:=Dt h0 hm
 by_cases h:(n.tmod l.slots.length).toNat=p
 ·rw[if_pos ⟨h,by omega⟩,if_pos h]
 ·rw[if_neg (fun hh=>h hh.1),if_neg h]
theorem JQ {l k:AY}{t:Int}:∀{n:Nat},(∀i:Nat,i<n->k.at' (t+i)=l.at' (t+i))->k.keptN t n=l.keptN t n
 |0,_=>rfl
 |n+1,h=>by rw[H7,H7,JQ fun i hi=>h i (by omega),h n (by omega)]
theorem G6 {l k:AY}{t:Int}:∀{n:Nat},(∀i:Nat,i<n->k.at' (t+i)=l.at' (t+i))->k.whole t n=l.whole t n
 |0,_=>rfl
 |n+1,h=>by rw[AY.whole,AY.whole,G6 fun i hi=>h i (by omega),h n (by omega)]
theorem Nf {l:AY}{t:Int}{n:Nat}(h:l.whole t n=true) {i:Nat}(hi:i<n):(l.at' (t+i)).bad=false/\(l.at' (t+i)).num=t+i:=by
 cases hc:(!(l.at' (t+i)).bad && decide ((l.at' (t+i)).num=t+i)) with
 |true =>
  rw[Bool.and_eq_true,decide_eq_true_eq] at hc
  exact⟨by simpa using hc.1,hc.2⟩
 |false=>rw[Jq hi hc] at h;cases h
theorem Q8 {l:AY}{t:Int}:∀{n:Nat},(∀i:Nat,i<n->(l.at' (t+i)).bad=false/\(l.at' (t+i)).num=t+i)->l.whole t n=true
 |0,_=>rfl
 |n+1,h=>by
  rw[AY.whole,Q8 fun i hi=>h i (by omega),(h n (by omega)).1,decide_eq_true (h n (by omega)).2];rfl
theorem RB {l:AY}(g:l.Good) {p:Nat}(hne:0<=l.newest.num->(l.newest.num.tmod l.slots.length).toNat≠p):D0 (l.slots.set p E')=l.newest:=by
 have g':=SA g (p:=p) (r:=E') (fun h=>by cases h)
 have key:∀i,i<l.slots.length->((l.slots.set p E')[i]?.getD default).bad=false->i≠p/\(l.slots.set p E')[i]?.getD default=l.slots[i]?.getD default:=by
  intro i hi hb
  rw[FS] at hb ⊢
  by_cases h:i=p/\p<l.slots.length
  ·rw[if_pos h] at hb;cases hb
  ·rw[if_neg h];exact⟨fun hh=>h ⟨hh,by omega⟩,rfl⟩
 rcases H5 l.slots l.slots.length (Nat.le_refl _) with h2|⟨j,hj,h2,h3⟩
 ·have h2':l.newest=DZ:=h2
  rw[h2']
  rcases Gm (l.slots.set p E') (l.slots.set p E').length with h4|h4
  ·exact h4
  ·rcases H5 (l.slots.set p E') (l.slots.set p E').length (Nat.le_refl _) with h5|⟨i,hi,h5,h6⟩
   ·exact h5
   ·rw[List.length_set] at hi
    obtain⟨k1,k2⟩:=key i hi h6
    rw[k2] at h5 h6
    have:=LQ l.slots l.slots.length i hi h6
    rw[h2] at this
    rw[h5] at h4
    simp[DZ] at this;omega
 ·have h2':l.newest=l.slots[j]?.getD default:=h2
  by_cases h0:l.newest.num=-1
  ·rw[h2']
   have hx:=Gm l.slots l.slots.length
   rcases hx with hx|hx
   ·have hx':l.newest=DZ:=hx
    rw[←h2',hx']
    rcases Gm (l.slots.set p E') (l.slots.set p E').length with h4|h4
    ·exact h4
    ·rcases H5 (l.slots.set p E') (l.slots.set p E').length (Nat.le_refl _) with h5|⟨i,hi,h5,h6⟩
     ·exact h5
     ·rw[List.length_set] at hi
      obtain⟨k1,k2⟩:=key i hi h6
      rw[k2] at h5 h6
      have:=LQ l.slots l.slots.length i hi h6
      rw[hx] at this
      rw[h5] at h4
      simp[DZ] at this;omega
   ·have:-1<l.newest.num:=hx
    omega
  ·have hn:=(Bs g).2.1
   have h7:=g.s j hj h3 (by rw[←h2'];exact h0)
   rw[←h2'] at h7
   have hjp:j≠p:=by
    have:=hne (by omega)
    rw[h7.2.1] at this
    intro e;apply this;omega
   have e1:(l.slots.set p E')[j]?.getD default=l.newest:=by rw[FS,if_neg (fun h=>hjp h.1),h2']
   have:=Ru g' (j:=j) (by simpa[AY.setS] using hj) (by show ((l.slots.set p E')[j]?.getD default).bad=false;rw[e1];exact(Bs g).1) (by show 0<=((l.slots.set p E')[j]?.getD default).num;rw[e1];omega) (fun i hi hb=>by
    have hi':i<l.slots.length:=by simpa[AY.setS] using hi
    obtain⟨k1,k2⟩:=key i hi' hb
    show ((l.slots.set p E')[i]?.getD default).num<=((l.slots.set p E')[j]?.getD default).num
    have hb':((l.slots.set p E')[i]?.getD default).bad=false:=hb
    rw[e1,k2]
    rw[k2] at hb'
    exact Qd l.slots i hi' hb')
   have this':D0 (l.slots.set p E')=(l.slots.set p E')[j]?.getD default:=this
   rw[this',e1]
theorem Uw {l:AY}(g:l.Good) {p:Nat}(hne:∀k,l.newest.tail<=k->k<=l.newest.num->(k.tmod l.slots.length).toNat≠p):(l.setS (l.slots.set p E')).newest=l.newest/\(l.setS (l.slots.set p E')).kept=l.kept/\(l.setS (l.slots.set p E')).full=l.full:=by
 obtain⟨n1,n2,n3⟩:=Bs g
 have hm:=g.m1
 have tl:0<=l.newest.num->l.newest.tail<=l.newest.num:=by
  intro h0
  rcases H5 l.slots l.slots.length (Nat.le_refl _) with h2|⟨j,hj,h2,h3⟩
  ·have:l.newest=DZ:=h2
   rw[this] at h0;simp[DZ] at h0
  ·have h2':l.newest=l.slots[j]?.getD default:=h2
   have:=g.s j hj h3 (by rw[←h2'];omega)
   rw[←h2'] at this;omega
 have hN:(l.setS (l.slots.set p E')).newest=l.newest:=RB g fun h=>hne _ (tl h) (Int.le_refl _)
 have ha:∀i:Nat,i<l.many->(l.setS (l.slots.set p E')).at' (l.newest.tail+i)=l.at' (l.newest.tail+i):=by
  intro i hi
  unfold AY.many at hi
  rw[UA (by omega) (by omega),if_neg (hne _ (by omega) (by omega))]
 refine⟨hN,?_,?_⟩
 ·unfold AY.kept
  have:(l.setS (l.slots.set p E')).many=l.many:=by unfold AY.many;rw[hN]
  rw[hN,this];exact JQ ha
 ·unfold AY.full
  have:(l.setS (l.slots.set p E')).many=l.many:=by unfold AY.many;rw[hN]
  rw[hN,this];exact G6 ha
theorem Mt {f:Nat->Bd}{t:Int}{d:Nat}:∀{M:Nat},(∀i:Nat,i<M->(f i).num=t+i)->d<=M->((List.range M).map f).filter (fun r=>decide (t+d<=r.num))=(List.range (M-d)).map fun i=>f (d+i)
 |0,_,h=>by simp
 |M+1,hf,h=>by
  rw[List.range_succ,List.map_append,List.filter_append]
  rcases (show d=M+1\/d<=M by omega) with h1|h1
  ·subst h1
   rw[Nat.sub_self]
   have e1:((List.range M).map f).filter (fun r=>decide (t+((M+1:Nat):Int)<=r.num))=[]:=by
    rw[List.filter_eq_nil_iff]
    intro r hr
    obtain⟨i,hi,rfl⟩:=List.mem_map.1 hr
    rw[List.mem_range] at hi
    rw[hf i (by omega)];simp;omega
   rw[e1]
   simp[hf M (by omega)];omega
  ·rw[Mt (fun i hi=>hf i (by omega)) h1,show M+1-d=(M-d)+1 by omega,List.range_succ,List.map_append]
   have:(decide (t+(d:Int)<=(f M).num))=true:=by rw[hf M (by omega)];simp;omega
   simp only[List.map_cons,List.map_nil,List.filter_cons,List.filter_nil,this,if_true]
   rw[show d+(M-d)=M by omega]
theorem Rl {l:AY}(g:l.Good) {x:Eb}(h:GL l.blocks l.slots x=0):(l.setS (Eo l.slots x)).Good:=by
 obtain⟨h1,h2,h3,h4,h5⟩:=II h
 obtain⟨n1,n2,n3⟩:=Bs g
 rw[DU] at n1 n2 n3
 have hm:=g.m1
 refine SA g fun _ _=>⟨⟨?_,?_⟩,?_,?_,?_,?_,?_⟩
 ·show 0<=(D0 l.slots).num+1;omega
 ·show (D0 l.slots).num+1<=999;omega
 ·show ((D0 l.slots).num+1).tmod l.slots.length=((((D0 l.slots).num+1).tmod l.slots.length).toNat:Int)
  rw[(Dt (show 0<=(D0 l.slots).num+1 by omega) (show 1<=l.slots.length by omega)).2.2]
 ·exact h1
 ·exact h2
 ·show 0<=x.tail;omega
 ·exact h3.2
theorem VK {l:AY}(hc:l.check=0) (g:l.Good) {x:Eb}(h:GL l.blocks l.slots x=0):(l.setS (Eo l.slots x)).check=0:=by
 obtain⟨h1,h2,h3,h4,h5⟩:=II h
 obtain⟨n1,n2,n3⟩:=Bs g
 rw[DU] at n1 n2 n3
 have hm:=g.m1
 refine P6 hc ?_
 unfold Ec
 rw[Bool.or_eq_true,Bool.or_eq_true]
 right;right
 unfold Pc
 simp only[Bool.and_eq_true,CR,decide_eq_true_eq]
 refine⟨rfl,⟨?_,?_⟩,?_,h1,h2,?_,h3.2⟩
 ·show 0<=(D0 l.slots).num+1;omega
 ·show (D0 l.slots).num+1<=999;omega
 ·show ((D0 l.slots).num+1).tmod l.slots.length=((((D0 l.slots).num+1).tmod l.slots.length).toNat:Int)
  rw[(Dt (show 0<=(D0 l.slots).num+1 by omega) (show 1<=l.slots.length by omega)).2.2]
 ·show 0<=x.tail;omega
theorem Gf {l:AY}(g:l.Good) {x:Eb}(h:GL l.blocks l.slots x=0):D0 (Eo l.slots x)=LG l.slots x:=by
 have g':=Rl g h
 obtain⟨h1,h2,h3,h4,h5⟩:=II h
 obtain⟨n1,n2,n3⟩:=Bs g
 rw[DU] at n1 n2 n3
 have hm:=g.m1
 have hp:M8 l.slots<l.slots.length:=(Dt (show 0<=(D0 l.slots).num+1 by omega) (show 1<=l.slots.length by omega)).1
 have e1:(Eo l.slots x)[M8 l.slots]?.getD default=LG l.slots x:=by unfold Eo;rw[FS,if_pos ⟨rfl,hp⟩]
 have:=Ru g' (j:=M8 l.slots) (by show _<(Eo l.slots x).length;rw[I9];exact hp) (by show ((Eo l.slots x)[M8 l.slots]?.getD default).bad=false;rw[e1];rfl) (by show 0<=((Eo l.slots x)[M8 l.slots]?.getD default).num;rw[e1];show 0<=(D0 l.slots).num+1;omega) (fun i hi hb=>by
  have hi':i<l.slots.length:=by have:i<(Eo l.slots x).length:=hi;rwa [I9] at this
  show ((Eo l.slots x)[i]?.getD default).num<=((Eo l.slots x)[M8 l.slots]?.getD default).num
  have hb':((Eo l.slots x)[i]?.getD default).bad=false:=hb
  rw[e1]
  unfold Eo at hb' ⊢
  rw[FS] at hb' ⊢
  by_cases hh:i=M8 l.slots/\M8 l.slots<l.slots.length
  ·rw[if_pos hh];exact Int.le_refl _
  ·rw[if_neg hh] at hb' ⊢
   have:=Qd l.slots i hi' hb'
   show _<=(D0 l.slots).num+1
   omega)
 have this':D0 (Eo l.slots x)=(Eo l.slots x)[M8 l.slots]?.getD default:=this
 rw[this',e1]
theorem W9 {l:AY}(g:l.Good) {x:Eb}(h:GL l.blocks l.slots x=0) {k:Int}(h1:(D0 l.slots).tail<=k) (h2:k<=(D0 l.slots).num):(l.setS (Eo l.slots x)).at' k=l.at' k:=by
 obtain⟨_,_,h3,h4,h5⟩:=II h
 obtain⟨n1,n2,n3⟩:=Bs g
 rw[DU] at n1 n2 n3
 have hm:=g.m1
 unfold Eo
 rw[UA (by omega) (by omega),if_neg]
 exact XO (by omega) (by omega) (by omega)
theorem N1 {l:AY}(g:l.Good) {x:Eb}(h:GL l.blocks l.slots x=0):(l.setS (Eo l.slots x)).at' ((D0 l.slots).num+1)=LG l.slots x:=by
 obtain⟨n1,n2,n3⟩:=Bs g
 rw[DU] at n1 n2 n3
 have hm:=g.m1
 unfold Eo
 rw[UA (by omega) (by omega)]
 exact if_pos rfl
theorem W7 {l:AY}(g:l.Good) (hf:l.full=true) {x:Eb}(h:GL l.blocks l.slots x=0):(l.setS (Eo l.slots x)).full=true:=by
 obtain⟨h1,h2,h3,h4,h5⟩:=II h
 obtain⟨n1,n2,n3⟩:=Bs g
 have hf':=hf
 unfold AY.full at hf' ⊢
 rw[Ed,Gf g h]
 rw[DU] at n1 n2 n3 hf'
 refine Q8 fun i hi=>?_
 unfold AY.many at hi
 rw[Ed,Gf g h] at hi
 simp only[LG] at hi ⊢
 by_cases hk:x.tail+i=(D0 l.slots).num+1
 ·rw[hk,N1 g h];exact⟨rfl,rfl⟩
 ·rw[W9 g h (by omega) (by omega)]
  have:=Nf hf' (i:=(x.tail+i-(D0 l.slots).tail).toNat) (by unfold AY.many;rw[DU];omega)
  rw[show (D0 l.slots).tail+((x.tail+i-(D0 l.slots).tail).toNat:Int)=x.tail+i by omega] at this
  exact this
theorem W6 {l:AY}(g:l.Good) (hf:l.full=true) {x:Eb}(h:GL l.blocks l.slots x=0):(l.setS (Eo l.slots x)).kept=l.kept.filter (fun r=>decide (x.tail<=r.num))++[LG l.slots x]:=by
 obtain⟨h1,h2,h3,h4,h5⟩:=II h
 obtain⟨n1,n2,n3⟩:=Bs g
 have hf':=hf
 unfold AY.full at hf'
 rw[DU] at n1 n2 n3 hf'
 have hM:l.many=((D0 l.slots).num+1-(D0 l.slots).tail).toNat:=rfl
 have hk:l.kept=(List.range l.many).map fun(i:Nat)=>l.at' ((D0 l.slots).tail+(i:Int)):=rfl
 have hfl:=Mt (f:=fun(i:Nat)=>l.at' ((D0 l.slots).tail+(i:Int))) (t:=(D0 l.slots).tail) (d:=(x.tail-(D0 l.slots).tail).toNat) (M:=l.many) (fun i hi=>(Nf hf' hi).2) (by omega)
 rw[show (D0 l.slots).tail+((x.tail-(D0 l.slots).tail).toNat:Int)=x.tail by omega,←hk] at hfl
 rw[hfl]
 unfold AY.kept AY.many
 rw[Ed,Gf g h]
 simp only[LG]
 rw[show ((D0 l.slots).num+1+1-x.tail).toNat=(l.many-(x.tail-(D0 l.slots).tail).toNat)+1 by omega,H7]
 congr 1
 ·unfold AY.keptN
  refine List.map_congr_left fun i hi=>?_
  rw[List.mem_range] at hi
  show (l.setS (Eo l.slots x)).at' (x.tail+(i:Int))=l.at' ((D0 l.slots).tail+(((x.tail-(D0 l.slots).tail).toNat+i:Nat):Int))
  rw[W9 g h (by omega) (by omega)]
  congr 1
  omega
 ·rw[show x.tail+((l.many-(x.tail-(D0 l.slots).tail).toNat:Nat):Int)=(D0 l.slots).num+1 by omega,N1 g h];rfl
end Go.Pw

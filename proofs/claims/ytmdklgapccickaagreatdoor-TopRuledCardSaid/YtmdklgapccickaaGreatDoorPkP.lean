/- A part of the proof. -/
import Derived.Test.YtmdklgapccickaaGreatDoorPwO
import Derived.Great.BuildSlice
set_option linter.all false
section
namespace Go.Pw
open Go.RowKit
section
variable {E:CW}{c:D_}{β:Nat->Nat->Value}{s:Bg}{tm:Array Value}{w:World}{K:AV->B3->Prop}
theorem ZW {ty e:TypeId}{ie:TypeInfo}{z:D}{len:Nat}(ht:E.P.underlying ty=some (.slice e)) (hi:E.P.info? e=some ie) (hz:Fj E.P e=some z) (hpos:0<ie.size) (hzl:z.cells.length=ie.size)
  (hsmall:len*ie.size<=16777216) {ix:List Nat}{xs:List AV}{us:List Value}{l:List D}(hix:ix.length=xs.length) (hxs:DL (AM w (c.bar β s.V) β s.V.cn) xs us)
  (hf:F_ ie.size (List.replicate len z) (ix.zip xs)=some l) {parts:Array (Nat×Value)}(hparts:parts.toList=ix.zip us) (h:Br E c β s tm w) :
  ∃cells,(Instr.buildSlice ty len parts).run E.P w=.ok (.slice (some ⟨w.heap.size,0,none⟩) len len) (w.alloc (.cells cells e))/\l.length=len /\
   ∀fb',(∀b,b<w.heap.size->fb' b->c.bar β s.V b)->CM (w.alloc (.cells cells e)) fb' e ie.size false l (.slice (some ⟨w.heap.size,0,none⟩) len len):=by
 obtain⟨i',zv,hi',hzv,hzr,hz1,hzs,hzc⟩:=ME hz
 rw[hi] at hi';simp at hi';subst hi'
 have hu0:C0 ie.size (List.replicate len z):=fun y hy=>by rw[List.eq_of_mem_replicate hy];exact hzl
 have hfl:=B6 hu0
 have hones:∀y,y∈B5 (List.replicate len z)->y.one=true:=fun y hy=>by
  simp only[B5,List.mem_flatMap] at hy
  obtain⟨q,hq,hy⟩:=hy
  rw[List.eq_of_mem_replicate hq] at hy;exact hz1 y hy
 have hc0:CN (Az w (c.bar β s.V)) (B5 (List.replicate len z)) (madeCells zv.cells (len*ie.size)):=by
  refine⟨by rw[size_madeCells,hfl];simp,fun q y u hq hu=>?_⟩
  obtain⟨a1,a2⟩:=HA hzl hpos hq
  obtain⟨u',hu',hd⟩:=hzc w (c.bar β s.V) _ _ a2
  have:=Mu (z:=zv.cells) (n:=len) (es:=ie.size) (by omega) a1 (Nat.mod_lt q hpos)
  rw[Nat.mul_comm (q/ie.size),Nat.div_add_mod,hu,hu'] at this
  simp at this;subst this;exact hd
 obtain⟨cells,g1,g2,g3,g4,g5⟩:=Wh ix xs us _ l _ hix hxs hu0 hones hc0 hf
 have hlen:l.length=len:=by simpa using g5
 refine⟨cells,?_,hlen,fun fb' hfb=>?_⟩
 ·by_cases h0:len=0
  ·subst h0
   have hmc:madeCells zv.cells (0*ie.size)=#[]:=by simp[madeCells,Array.range_zero']
   rw[hmc] at g1
   have hs:sizeOf e=(do pure (←typeInfo e).size):=rfl
   simp[Instr.buildSlice,run_underlying ht,sizeOf,typeInfo,hi,newRow,hparts,Array.range_zero',g1]
  ·have:=run_buildSlice (P:=E.P) w ty e len parts cells ie zv ht hi hzv (by omega) (by have:=Nat.mul_pos (Nat.pos_of_ne_zero h0) hpos;omega) (by rw[hparts];exact g1)
   exact this
 ·have:=PN (w':=w.alloc (.cells cells e)) (fb:=fb') (ety:=e) (es:=ie.size) (l:=l) (b:=w.heap.size) (cap:=len) (cur:=cells) (heap_alloc_new w _) (by omega) (by unfold maxLen;have:len<=len*ie.size:=Nat.le_mul_of_pos_right _ hpos;omega)
   (by rw[g2.1,B6 g3,hlen];exact Nat.le_refl _) hpos g3 (fun x y hx hy=>g4 y (List.mem_flatMap.2 ⟨x,hx,hy⟩)) (fun q y hq=>by
    obtain⟨u,hu⟩:∃u,cells[q]?=some u:=⟨_,Array.getElem?_eq_getElem (by have:=(List.getElem?_eq_some_iff.1 hq).1;have:=g2.1;omega)⟩
    exact⟨u,hu,(g2.2 q y u hq hu).mono (.of_below (CJ w _)) hfb⟩)
  rwa [hlen] at this
theorem Uc (h:Br E c β s tm w) {t:Nat}{ty e:TypeId}{ie:TypeInfo}{z:D}{len:Nat}(ht:E.P.underlying ty=some (.slice e)) (hi:E.P.info? e=some ie) (hz:Fj E.P e=some z) (hpos:0<ie.size) (hzl:z.cells.length=ie.size)
  (hsmall:len*ie.size<=16777216) {ix:List Nat}{xs:List AV}{us:List Value}(hxs:DL (AM w (c.bar β s.V) β s.V.cn) xs us) {parts:Array (Nat×Value)}(hparts:parts.toList=ix.zip us)
  (he:ev E (some t) s.V (.mkrowO e ie.size z len ix) xs K):GF E c s tm K ((Instr.buildSlice ty len parts).run E.P w):=by
 unfold ev at he
 simp only at he
 split at he
 ·rename_i t' l h1 hf
  simp only[Option.some.injEq] at h1;subst h1
  obtain⟨hlim,hix,he⟩:=he
  obtain⟨cells,hrun,hlen,hrow⟩:=ZW ht hi hz hpos hzl hsmall hix hxs hf hparts h
  obtain⟨β',h5,h6⟩:=JV h (t:=t) hlim (CJ w _) (vo:=.slice (some ⟨w.heap.size,0,none⟩) len len) rfl (fun b hb=>by simp[C8,BX] at hb;subst hb;exact⟨Nat.le_refl _,by simp⟩) hrow
  exact⟨_,_,_,_,β',hrun,he,h5,h6⟩
 ·exact he.elim
theorem Vp (h:Br E c β s tm w) {dst:Option Nat}{ty e:TypeId}{ie:TypeInfo}{z:D}{len:Nat}(ht:E.P.underlying ty=some (.slice e)) (hi:E.P.info? e=some ie) (hz:Fj E.P e=some z) (hpos:0<ie.size) (hzl:z.cells.length=ie.size)
  (hsmall:len*ie.size<=16777216) {ix:List Nat}{xs:List AV}{us:List Value}(hxs:DL (AM w (c.bar β s.V) β s.V.cn) xs us) {parts:Array (Nat×Value)}(hparts:parts.toList=ix.zip us)
  (he:ev E dst s.V (.mkrow ie.size z len ix) xs K):GF E c s tm K ((Instr.buildSlice ty len parts).run E.P w):=by
 unfold ev at he
 simp only at he
 split at he
 ·rename_i q p
  obtain⟨hes,rfl,rfl,hK⟩:=he
  obtain⟨u,us',rfl,hu,hv'⟩:=hxs.cons'
  have:=hv'.nil;subst this
  obtain⟨i',zv,hi',hzv,hzr,hz1,hzs,hzc⟩:=ME hz
  rw[hi] at hi';simp at hi';subst hi'
  have hone:u.oneCell'=true:=hu.oneCell rfl
  have hcs:=Gk hone
  have hsz0:(madeCells zv.cells (1*ie.size)).size=1:=by rw[size_madeCells,hes]
  have hsp:=J0 (cells:=madeCells zv.cells (1*ie.size)) (off:=0*ie.size) (vs:=u.cells) (by rw[hsz0,hcs];simp)
  have hspl:(Bs (madeCells zv.cells (1*ie.size)).toList (0*ie.size) u.cells.toList).toArray=#[u]:=by
   rw[hcs,Nat.zero_mul]
   have hd:(madeCells zv.cells (1*ie.size)).toList.drop 1=[]:=List.drop_eq_nil_of_le (by rw[Array.length_toList,hsz0];exact Nat.le_refl _)
   simp only[Bs,List.take_zero,List.nil_append,List.length_cons,List.length_nil,Nat.zero_add]
   rw[hd];rfl
  have hfill:Instr.fill (fun i=>some (i*ie.size,ie.size)) ((Array.range (1*ie.size)).map (zv.cells[·%zv.cells.size]!)) parts.toList=some #[u]:=by
   rw[hparts]
   show Instr.fill (fun i=>some (i*ie.size,ie.size)) (madeCells zv.cells (1*ie.size)) [(0,u)]=some #[u]
   rw[Instr.fill]
   simp only
   rw[if_neg (by rw[hsz0,hcs];simp[hes])]
   rw[hsp,hspl];rfl
  have hrun:=run_buildSlice (P:=E.P) w ty e 1 parts #[u] ie zv ht hi hzv (by omega) (by omega) hfill
  have hbe:=CJ w (.cells #[u] e)
  have hrel:=h.grow hbe
  refine⟨_,_,_,.none,β,hrun,hK,hrel,.ablk true _ 0 w.heap.size 0 (fun _=>u) _ (fun hb=>by have:=H1 h hb;omega) (by simp) (fun c hc=>by simp at hc;subst hc;rfl) (fun j c hj=>?_) (fun j c hj=>?_) rfl⟩
  ·cases j with
   |zero=>rw[CC (heap_alloc_new w _)];rfl
   |succ j=>simp at hj
  ·cases j with
   |zero=>simp at hj;subst hj;exact hu.mono (.of_below hbe) (fun _ _ hb=>hb) (fun _ _ _=>rfl) (fun _=>Nat.le_refl _)
   |succ j=>simp at hj
 split at he
 ·rename_i l hf
  obtain⟨hix,he⟩:=he
  obtain⟨cells,hrun,hlen,hrow⟩:=ZW ht hi hz hpos hzl hsmall hix hxs hf hparts h
  have hrel:=h.grow (CJ w (.cells cells e))
  refine⟨_,_,_,.none,β,hrun,he,hrel,?_⟩
  have:=C4 (hrow _ fun b _ hb=>hb) fun b hb hbar=>by
   simp[C8,BX] at hb;subst hb
   have:=H1 h hbar;omega
  subst hlen
  exact .ex l _ this
 ·exact he.elim
def l6 (P:Program) (w:World) (i:TypeInfo) (z:Value) (tx:TypeId) (x:Value) (n:Nat) (news:List Value):Prop :=
 (∃e',P.underlying tx=some (.slice e')/\((x=.slice none 0 0/\n=0/\news=[]) \/
  ∃a cap,x=.slice (some a) n cap/\news.length=n*i.size/\∀(j:Nat) (v:Value),news[j]?=some v->w.cell? (a.add j)=some v)) \/
 (P.underlying tx=some (.int .i64)/\x=.int .i64 n/\n<=C1/\i.bytes<=131072/\news=(Builtin.zeroCells z.cells n).toList/\z.cells.size=i.size/\0<i.size)
theorem NA {n:Nat}(h:n<=C1):IntKind.i64.wrap (n:Int)=n:=by
 have h':n<=1073741824:=h
 rw[IntKind.wrap_i64];omega
section
variable {P:Program}{w:World}
theorem Nv {t tx ty e:TypeId}{i:TypeInfo}{z:Value}(ht:P.underlying t=some (.slice e)) (hi:P.info? e=some i) (hz:i.zero=some z) {x:Value}{n:Nat}{news:List Value}(hs:l6 P w i z tx x n news)
  {b off sLen sCap:Nat}{cur:Array Value}(hb:w.heap[b]?=some (.cells cur e (0,0))) (hroom:sLen+n<=sCap) (hfit:off+sLen*i.size+news.length<=cur.size) (h1:∀v,v∈news->v.oneCell'=true) :
  (Builtin.append_ #[t,tx] ty #[.slice (some ⟨b,off,none⟩) sLen sCap,x]).run P w=.ok (.slice (some ⟨b,off,none⟩) (sLen+n) sCap) (w.setRow b (Bs cur.toList (off+sLen*i.size) news).toArray):=by
 have hst:=run_storeCells_at P b (off+sLen*i.size) e news 0 cur w hb (by simpa using hfit) h1
 simp only[Nat.add_zero] at hst
 rcases hs with⟨e',hx,⟨rfl,rfl,rfl⟩|⟨a,cap,rfl,hl,hnews⟩⟩|⟨hx,rfl,hn,hby,rfl,hzs,hpos⟩
 ·simp only[List.append_nil,List.length_nil,Nat.add_zero] at hst
  simp[Builtin.append_,run_underlying ht,run_underlying hx,sizeOf,typeInfo,hi,Builtin.lenOf,Builtin.firstCells,hroom,Addr.add_lit,Bs]
  have:sLen<=sCap:=by omega
  simp[this]
  simp[storeCells]
  rw[setRow_self w b cur e (0,0) hb]
 ·have hf:=run_firstCells_some (P:=P) w i.size n a n cap news hl hnews
  simp[Builtin.append_,run_underlying ht,run_underlying hx,sizeOf,typeInfo,hi,Builtin.lenOf,hroom,hf,Addr.add_lit,hst,Bs]
 ·have hw:=NA hn
  have hn':n<=1073741824:=hn
  have h2:¬(281474976710656<(n:Int)*(i.bytes:Int)):=by
   have:(n:Int)*(i.bytes:Int)<=1073741824*131072:=Int.mul_le_mul (by omega) (by omega) (by omega) (by omega)
   omega
  have hty:∀w':World,(typeInfo e).run P w'=.ok i w':=fun w'=>by simp[typeInfo,hi]
  have hzv:∀w':World,(zeroValue e).run P w'=.ok z w':=fun w'=>by simp[zeroValue,typeInfo,hi,hz]
  have hne:i.size≠0:=by omega
  have h0:¬((n:Int)<0):=by omega
  by_cases hn0:n=0
  ·subst hn0
   have hzn:(Builtin.zeroCells z.cells 0).toList=[]:=by simp[Builtin.zeroCells]
   rw[hzn] at hst ⊢
   have:sLen<=sCap:=by omega
   have hw0:IntKind.i64.wrap 0=0:=by simpa using hw
   simp[Builtin.append_,run_underlying ht,run_underlying hx,sizeOf,hty,asInt,asIntOf,hw0,this,Addr.add_lit,Bs]
   simp[storeCells]
   rw[setRow_self w b cur e (0,0) hb]
  ·simp[Builtin.append_,run_underlying ht,run_underlying hx,sizeOf,hty,hzv,asInt,asIntOf,hw,h0,h2,hroom,hn0,hne,(Nat.mul_ne_zero hn0 hne),Addr.add_lit,hst,Bs]
theorem kK {need old:Nat}(h:need<=2*C1) (h0:old<need):Builtin.nextslicecap need old<=4*C1:=by
 unfold Builtin.nextslicecap
 split
 ·omega
 ·split
  ·omega
  ·have key:∀(r c:Nat),c<=4*C1->Builtin.growBy need r c<=4*C1:=by
    intro r
    induction r with
    |zero=>intro c hc;simpa[Builtin.growBy] using hc
    |succ r ih =>
     intro c hc
     simp only[Builtin.growBy]
     split
     ·exact hc
     ·exact ih _ (by unfold C1 at *;omega)
   exact key 4 old (by omega)
theorem Nw {t tx ty e:TypeId}{i:TypeInfo}{z:Value}(ht:P.underlying t=some (.slice e)) (hi:P.info? e=some i) (hz:i.zero=some z) (hby:i.bytes<=65536) {x:Value}{n:Nat}{news:List Value}(hs:l6 P w i z tx x n news)
  {a:Option Addr}{sLen sCap:Nat}{olds:List Value}(hlo:olds.length=sLen*i.size) (holds:(a=none/\sLen=0)\/∃ad,a=some ad/\∀(j:Nat) (v:Value),olds[j]?=some v->w.cell? (ad.add j)=some v)
  (hroom:sCap<sLen+n) (hlen:sLen+n<=C1) :
  ∃cap cur,(Builtin.append_ #[t,tx] ty #[.slice a sLen sCap,x]).run P w=.ok (.slice (some ⟨w.heap.size,0,none⟩) (sLen+n) cap) (w.drew.alloc (.cells cur e))/\sLen+n<=cap/\cap<=maxLen /\
   cur=(olds++news).toArray++Builtin.zeroCells z.cells (cap-(sLen+n)):=by
 refine⟨grownCap w (sLen+n) sCap e,_,?_,grownCap_ge w (sLen+n) sCap e,grownCap_le_maxLen w (sLen+n) sCap e (by unfold C1 at hlen;unfold maxLen;omega),rfl⟩
 have hgl:=kK (need:=sLen+n) (old:=sCap) (by omega) hroom
 have hnr:¬(sLen+n<=sCap):=by omega
 have h63':¬(9223372036854775807<((sLen:Int)+(n:Int))):=by unfold C1 at hlen;omega
 have h48':¬(281474976710656<Builtin.nextslicecap (sLen+n) sCap*i.bytes):=by
  have:Builtin.nextslicecap (sLen+n) sCap*i.bytes<=(4*C1)*65536:=Nat.mul_le_mul hgl hby
  unfold C1 at this;omega
 have hfo:(Builtin.firstCells i.size sLen (.slice a sLen sCap)).run P w.drew=.ok olds.toArray w.drew:=by
  rcases holds with⟨rfl,rfl⟩|⟨ad,rfl,hc⟩
  ·simp at hlo;subst hlo;simp[Builtin.firstCells]
  ·exact run_firstCells_some (P:=P) w.drew i.size sLen ad sLen sCap olds hlo (by simpa using hc)
 rcases hs with⟨e',hx,⟨rfl,rfl,rfl⟩|⟨b,cap,rfl,hl,hnews⟩⟩|⟨hx,rfl,hn,hby',rfl,hzs,hpos⟩
 ·have:¬sLen<=sCap:=by omega
  have h63'':¬(9223372036854775807<(sLen:Int)):=by omega
  simp only[Nat.add_zero] at h48'
  simp[Builtin.append_,run_underlying ht,run_underlying hx,sizeOf,typeInfo,zeroValue,hi,hz,Builtin.lenOf,this,h63'',h48',Question.forced,hfo,newRow,grownCap,run_firstCells_none]
 ·have hf:=run_firstCells_some (P:=P) w.drew i.size n b n cap news hl (by simpa using hnews)
  simp[Builtin.append_,run_underlying ht,run_underlying hx,sizeOf,typeInfo,zeroValue,hi,hz,Builtin.lenOf,hnr,h63',h48',Question.forced,hf,hfo,newRow,grownCap]
  congr 2
  apply Array.ext'
  simp[List.append_assoc]
 ·have hw:=NA hn
  have hn':n<=1073741824:=hn
  have h2:¬(281474976710656<(n:Int)*(i.bytes:Int)):=by
   have:(n:Int)*(i.bytes:Int)<=1073741824*131072:=Int.mul_le_mul (by omega) (by omega) (by omega) (by omega)
   omega
  have hty:∀w':World,(typeInfo e).run P w'=.ok i w':=fun w'=>by simp[typeInfo,hi]
  have hzv:∀w':World,(zeroValue e).run P w'=.ok z w':=fun w'=>by simp[zeroValue,typeInfo,hi,hz]
  have hne:i.size≠0:=by omega
  have h0:¬((n:Int)<0):=by omega
  by_cases hn0:n=0
  ·subst hn0
   have hzn:(Builtin.zeroCells z.cells 0).toList=[]:=by simp[Builtin.zeroCells]
   have hzn':(Builtin.zeroCells z.cells 0)=#[]:=by simp[Builtin.zeroCells]
   have:¬sLen<=sCap:=by omega
   have h63'':¬(9223372036854775807<(sLen:Int)):=by omega
   have hw0:IntKind.i64.wrap 0=0:=by simpa using hw
   simp only[Nat.add_zero] at h48'
   simp[Builtin.append_,run_underlying ht,run_underlying hx,sizeOf,hty,hzv,asInt,asIntOf,hw0,this,h63'',h48',Question.forced,hfo,newRow,grownCap,hzn]
  ·simp[Builtin.append_,run_underlying ht,run_underlying hx,sizeOf,hty,hzv,asInt,asIntOf,hw,h0,h2,hnr,h63',h48',hn0,hne,(Nat.mul_ne_zero hn0 hne),Question.forced,hfo,newRow,grownCap]
   congr 2
   apply Array.ext'
   simp[List.append_assoc]
end
end
end Go.Pw
end
section
namespace Go.Pw
open Go.RowKit
section
variable {P:Program}{w:World}
theorem Js {t tx ty e:TypeId}{i:TypeInfo}{z:Value}(ht:P.underlying t=some (.slice e)) (hi:P.info? e=some i) (hz:i.zero=some z) {x:Value}{news:List Value}(hs:l6 P w i z tx x 0 news)
  {a:Option Addr}{sLen sCap:Nat}(hroom:sLen<=sCap) :
  (Builtin.append_ #[t,tx] ty #[.slice a sLen sCap,x]).run P w=.ok (.slice a sLen sCap) w/\news=[]:=by
 have hty:∀w':World,(typeInfo e).run P w'=.ok i w':=fun w'=>by simp[typeInfo,hi]
 have hzv:∀w':World,(zeroValue e).run P w'=.ok z w':=fun w'=>by simp[zeroValue,typeInfo,hi,hz]
 rcases hs with⟨e',hx,⟨rfl,_,rfl⟩|⟨b,cap,rfl,hl,hnews⟩⟩|⟨hx,rfl,hn,hby',rfl,hzs,hpos⟩
 ·refine⟨?_,rfl⟩
  cases a<;>simp[Builtin.append_,run_underlying ht,run_underlying hx,sizeOf,hty,Builtin.lenOf,hroom,run_firstCells_none,storeCells]
 ·have:news=[]:=List.eq_nil_of_length_eq_zero (by omega)
  subst this
  refine⟨?_,rfl⟩
  have hf:=run_firstCells_some (P:=P) w i.size 0 b 0 cap [] (by simp) (by simp)
  cases a<;>simp[Builtin.append_,run_underlying ht,run_underlying hx,sizeOf,hty,Builtin.lenOf,hroom,hf,storeCells]
 ·have hzn:(Builtin.zeroCells z.cells 0).toList=[]:=by simp[Builtin.zeroCells]
  have hw0:IntKind.i64.wrap 0=0:=by have:=NA (n:=0) (by unfold C1;omega);simpa using this
  refine⟨?_,hzn⟩
  cases a<;>simp[Builtin.append_,run_underlying ht,run_underlying hx,sizeOf,hty,hzv,asInt,asIntOf,hw0,hroom,storeCells]
end
section
variable {E:CW}{c:D_}{β:Nat->Nat->Value}{s:Bg}{tm:Array Value}{w:World}{K:AV->B3->Prop}
theorem XC (w:World):Below w.heap.size w w:=Below.refl _ _
theorem Vl {fb:Nat->Prop}{ys:List D}{tx e':TypeId}{i:TypeInfo}{z:Value}{es b off cap:Nat}{vs:Nat->Nat->Value}(hs:C0 es ys) (h1:∀x c,x∈ys->c∈x.cells->c.one=true)
  (hc:∀(i:Nat) (x:D) (j:Nat) (c:D),ys[i]?=some x->x.cells[j]?=some c->w.cell? ⟨b,off+i*es+j,none⟩=some (vs i j))
  (hv:∀(i:Nat) (x:D) (j:Nat) (c:D),ys[i]?=some x->x.cells[j]?=some c->Az w fb c (vs i j)) (hu:C0 i.size ys) (hpos:0<i.size) (hx:E.P.underlying tx=some (.slice e')) :
  ∃news,l6 E.P w i z tx (.slice (some ⟨b,off,none⟩) ys.length cap) ys.length news/\CN (Az w fb) (B5 ys) news.toArray/\∀y,y∈B5 ys->y.one=true:=by
 cases ys with
 |nil=>exact⟨[],.inl ⟨e',hx,.inr ⟨_,cap,rfl,by simp,by simp⟩⟩,⟨by simp[B5],fun j x v hj=>by simp[B5] at hj⟩,by simp[B5]⟩
 |cons y0 ys0 =>
  have hes':i.size=es:=(hu y0 (by simp)).symm.trans (hs y0 (by simp))
  subst hes'
  generalize hys:y0::ys0=ys at *
  have hfl:=B6 hu
  have hget:∀(q:Nat) (x:D),(B5 ys)[q]?=some x->∃p,ys[q/i.size]?=some p/\p.cells[q%i.size]?=some x:=by
   intro q x hq
   have hlt:q<ys.length*i.size:=by rw[←hfl];exact(List.getElem?_eq_some_iff.1 hq).1
   have hi:q/i.size<ys.length:=Nat.div_lt_of_lt_mul (by rw[Nat.mul_comm];exact hlt)
   have hj:q%i.size<i.size:=Nat.mod_lt _ hpos
   have hp:ys[q/i.size]?=some ys[q/i.size]:=List.getElem?_eq_getElem hi
   have hl:=hu _ (List.mem_of_getElem? hp)
   have hcx:ys[q/i.size].cells[q%i.size]?=some (ys[q/i.size].cells[q%i.size]'(by omega)):=List.getElem?_eq_getElem (by omega)
   have:=Gi hu hp hcx
   rw[Nat.mul_comm,Nat.div_add_mod,hq] at this
   simp at this;subst this
   exact⟨_,hp,hcx⟩
  refine⟨(List.range (ys.length*i.size)).map fun q=>vs (q/i.size) (q%i.size),.inl ⟨e',hx,.inr ⟨_,cap,rfl,by simp,fun j v hj=>?_⟩⟩,⟨by simp[hfl],fun j x v hj hv'=>?_⟩,fun y hy=>?_⟩
  ·simp only[List.getElem?_map,List.getElem?_range] at hj
   by_cases hlt:j<ys.length*i.size
   ·have hj':(B5 ys)[j]?=some ((B5 ys)[j]'(by omega)):=List.getElem?_eq_getElem (by omega)
    obtain⟨p,hp,hpx⟩:=hget j _ hj'
    simp[hlt] at hj
    have:=hc _ p _ _ hp hpx
    rw[Addr.add_lit]
    rw[show off+j=off+j/i.size*i.size+j%i.size by rw[Nat.add_assoc,Nat.mul_comm,Nat.div_add_mod]]
    rw[this,hj]
   ·simp at hj
    obtain⟨q,hq,_⟩:=hj
    have:=(List.getElem?_eq_some_iff.1 hq).1
    simp at this;omega
  ·obtain⟨p,hp,hpx⟩:=hget j x hj
   have hlt:j<ys.length*i.size:=by rw[←hfl];exact(List.getElem?_eq_some_iff.1 hj).1
   simp[hlt] at hv'
   subst hv'
   exact hv _ p _ x hp hpx
  ·simp only[B5,List.mem_flatMap] at hy
   obtain⟨q,hq,hy⟩:=hy
   exact h1 q y hq hy
theorem Nq {fb:Nat->Prop}{nl:Bool}{ys:List D}{u:Value}{tx e':TypeId}{i:TypeInfo}{z:Value}(h:Az w fb (.list nl ys) u) (hu:C0 i.size ys) (hpos:0<i.size) (hx:E.P.underlying tx=some (.slice e')) :
  ∃news,l6 E.P w i z tx u ys.length news/\CN (Az w fb) (B5 ys) news.toArray/\∀y,y∈B5 ys->y.one=true:=by
 cases h with
 |nil=>exact⟨[],.inl ⟨e',hx,.inl ⟨rfl,rfl,rfl⟩⟩,⟨by simp[B5],fun j x v hj=>by simp[B5] at hj⟩,by simp[B5]⟩
 |empty a cap hm=>exact⟨[],.inl ⟨e',hx,.inr ⟨a,cap,rfl,by simp,by simp⟩⟩,⟨by simp[B5],fun j x v hj=>by simp[B5] at hj⟩,by simp[B5]⟩
 |list _ es b off cap vs hcap hm hb hes hs h1 hc hv=>exact Vl (E:=E) hs h1 hc hv hu hpos hx
theorem ZT {fb:Nat->Prop}{ety es:Nat}{nl:Bool}{ys:List D}{u:Value}{tx e':TypeId}{i:TypeInfo}{z:Value}(h:CM w fb ety es nl ys u) (hu:C0 i.size ys) (hpos:0<i.size) (hx:E.P.underlying tx=some (.slice e')) :
  ∃news,l6 E.P w i z tx u ys.length news/\CN (Az w fb) (B5 ys) news.toArray/\∀y,y∈B5 ys->y.one=true:=by
 rcases h with⟨h1,h2,h3⟩|⟨h1,b,off,cap,cur,h2,h3,h4,h5,h6,h7,h8,h10,h9⟩
 ·subst h2 h3
  exact⟨[],.inl ⟨e',hx,.inl ⟨rfl,rfl,rfl⟩⟩,⟨by simp[B5],fun j x v hj=>by simp[B5] at hj⟩,by simp[B5]⟩
 ·subst h2
  refine Vl (E:=E) (vs:=fun i j=>cur.getD (off+i*es+j) undef) h8 h10 (fun i x j c hi hj=>?_) (fun i x j c hi hj=>?_) hu hpos hx
  ·obtain⟨u,hu,_⟩:=h9 i x j c hi hj
   rw[CC h3,hu];simp[Array.getD_eq_getD_getElem?,hu]
  ·obtain⟨u,hu,hd⟩:=h9 i x j c hi hj
   simpa[Array.getD_eq_getD_getElem?,hu] using hd
theorem Mh {z:Array Value}{n q:Nat}(hq:q<n*z.size) (hz:0<z.size):(Builtin.zeroCells z n)[q]?=z[q%z.size]?:=by
 have hm:q%z.size<z.size:=Nat.mod_lt _ hz
 simp only[Builtin.zeroCells,Array.getElem?_map,Array.getElem?_range,hq,if_true,Option.map_some]
 rw[getElem!_pos z _ hm,Array.getElem?_eq_getElem hm]
theorem Np (h:Br E c β s tm w) {tx e:TypeId}{i:TypeInfo}{zv:Value}{zo:Option D}{y:AV}{u:Value}{ys:List D}(hy:AM w (c.bar β s.V) β s.V.cn y u) (hs:EU s.V zo y=some ys) (hu:C0 i.size ys) (hpos:0<i.size)
  (hcase:(zo=none/\∃e',E.P.underlying tx=some (.slice e'))\/(∃z,zo=some z/\E.P.underlying tx=some (.int .i64)/\Fj E.P e=some z/\E.P.info? e=some i/\i.zero=some zv/\z.cells.length=i.size/\i.bytes<=65536)) :
  ∃news,l6 E.P w i zv tx u ys.length news/\CN (Az w (c.bar β s.V)) (B5 ys) news.toArray/\∀y,y∈B5 ys->y.one=true:=by
 rcases hcase with⟨rfl,e',hx⟩|⟨z,rfl,hx,hz,hi,hzv,hzl,hby⟩
 ·simp only[EU] at hs
  split at hs
  ·cases hs
  rename_i hno
  split at hs
  ·rename_i nl l hl
   simp at hs;subst hs
   unfold AV.asList at hl
   split at hl
   ·simp at hl;obtain⟨rfl,rfl⟩:=hl
    cases hy with|d _ _ hy=>exact Nq (E:=E) hy hu hpos hx
   ·simp at hl;obtain⟨rfl,rfl⟩:=hl
    cases hy with|ex _ a hy=>exact Nq (E:=E) hy hu hpos hx
   ·rename_i o g
    split at hl
    ·rename_i ety es nl l hg
     simp at hl;obtain⟨rfl,rfl⟩:=hl
     cases hy with
     |own _ _ hgg hone =>
      obtain⟨_,ho⟩:=h.objs _ _ _ (AL.get_some hg)
      generalize hv:β o g=v at ho
      cases ho with|row _ _ _ _ _ ho=>exact ZT (E:=E) ho hu hpos hx
    ·cases hl
   ·exact(hno _ _ rfl).elim
   ·rename_i j o g
    split at hl
    ·rename_i e1 e2 nl0 ix rows hg
     have hob:=AL.get_some hg
     obtain⟨_,ho⟩:=h.objs _ _ _ hob
     obtain⟨v,hv⟩:∃v,β o g=v:=⟨_,rfl⟩
     cases hy with|mref _ _ _ u hlt hm hu1 =>
     rw[hv] at ho
     cases ho with|mat _ _ _ _ _ _ ho =>
     obtain⟨v0,vs,hvv,hlen,hc,hr,hsep⟩:=ho
     rw[hv,hvv] at hm
     simp only[EH,B_,List.getElem?_cons_succ] at hm
     obtain⟨hl,ha⟩:=Option.filter_eq_some_iff.1 hl
     exact ZT (E:=E) ((hr j _ u hl hm).2 ha) hu hpos hx
    ·cases hl
   ·cases hl
  ·cases hs
 ·simp only[EU] at hs
  split at hs
  ·rename_i n
   split at hs
   ·rename_i hn
    simp at hs;subst hs
    obtain⟨rfl,_⟩:=Bl hy
    obtain⟨i',zv',hi',hzv',hzr,hz1,hzs,hzc⟩:=ME hz
    rw[hi] at hi';simp at hi';subst hi'
    rw[hzv] at hzv';simp at hzv';subst hzv'
    refine⟨_,.inr ⟨hx,by simp;omega,by simp;omega,by omega,rfl,by omega,hpos⟩,⟨?_,fun q x v hq hv=>?_⟩,fun y hy=>?_⟩
    ·rw[B6 hu];simp[Builtin.zeroCells,hzs,hzl]
    ·obtain⟨a1,a2⟩:=HA hzl hpos hq
     obtain⟨u',hu',hd⟩:=hzc w (c.bar β s.V) _ _ a2
     have hlt:q<(List.replicate n.toNat z).length*zv.cells.size:=by rw[hzs,hzl,←B6 hu];exact(List.getElem?_eq_some_iff.1 hq).1
     have:=Mh hlt (by omega)
     simp only[Array.toArray_toList] at hv
     rw[hv,hzs,hzl,hu'] at this
     simp at this;subst this;exact hd
    ·simp only[B5,List.mem_flatMap] at hy
     obtain⟨q,hq,hy⟩:=hy
     rw[List.eq_of_mem_replicate hq] at hy;exact hz1 y hy
   ·cases hs
  ·cases hs
theorem bj {w':World}{fb:Nat->Prop}{ety es:Nat}{l ys:List D}{b:Nat}{cap:Nat}{cur:Array Value}{olds news:List Value}{rest:Array Value}(hb:w'.heap[b]?=some (.cells cur ety (0,0))) (hcur:cur=(olds++news).toArray++rest)
  (hsz:cap*es<=cur.size) (hlc:(l++ys).length<=cap) (hm:cap<=maxLen) (hes:0<es) (hul:C0 es l) (huy:C0 es ys) (h1l:∀x c,x∈l->c∈x.cells->c.one=true) (h1y:∀y,y∈B5 ys->y.one=true)
  (hol:olds.length=l.length*es) (hold:∀(q:Nat) (x:D) (v:Value),(B5 l)[q]?=some x->olds[q]?=some v->Az w' fb x v) (hnew:∀(q:Nat) (x:D) (v:Value),(B5 ys)[q]?=some x->news[q]?=some v->Az w' fb x v) (hnl:news.length=ys.length*es) :
  CM w' fb ety es false (l++ys) (.slice (some ⟨b,0,none⟩) (l++ys).length cap):=by
 have hu:C0 es (l++ys):=fun x hx=>(List.mem_append.1 hx).elim (hul x) (huy x)
 refine PN hb hlc hm hsz hes hu (fun x c hx hc=>(List.mem_append.1 hx).elim (fun h=>h1l x c h hc) (fun h=>h1y c (List.mem_flatMap.2 ⟨x,h,hc⟩))) fun q x hq=>?_
 have hfa:B5 (l++ys)=B5 l++B5 ys:=by simp[B5]
 have e1:=B6 hul
 have e2:=B6 huy
 rw[hfa] at hq
 subst hcur
 by_cases hlt:q<(B5 l).length
 ·rw[List.getElem?_append_left hlt] at hq
  obtain⟨v,hv⟩:∃v,olds[q]?=some v:=⟨_,List.getElem?_eq_getElem (by omega)⟩
  refine⟨v,?_,hold q x v hq hv⟩
  rw[Array.getElem?_append_left (by simp;omega),List.getElem?_toArray,List.getElem?_append_left (by omega)];exact hv
 ·rw[List.getElem?_append_right (by omega)] at hq
  have:=(List.getElem?_eq_some_iff.1 hq).1
  obtain⟨v,hv⟩:∃v,news[q-(B5 l).length]?=some v:=⟨_,List.getElem?_eq_getElem (by omega)⟩
  refine⟨v,?_,hnew _ x v hq hv⟩
  rw[Array.getElem?_append_left (by simp;omega),List.getElem?_toArray,List.getElem?_append_right (by omega),←hv]
  congr 1;omega
theorem CM.blk2 {w:World}{fb:Nat->Prop} {ety es nil xs v} (h:CM w fb ety es nil xs v) {b:Nat}(hb:BX v=some b):C8 v b:=by
 rcases h with⟨h1,h2,h3⟩|⟨h1,b,off,cap,cur,h2,h3⟩
 ·subst h3;exact hb
 ·subst h2;exact hb
theorem XG (h:Br E c β s tm w) {t tx ty e:TypeId}{i:TypeInfo}{zv:Value}{zo:Option D}(ht:E.P.underlying t=some (.slice e)) (hi:E.P.info? e=some i) (hzv:i.zero=some zv) (hpos:0<i.size) (hby:i.bytes<=65536) (hzs:zv.cells.size=i.size)
 (hcase:(zo=none/\∃e',E.P.underlying tx=some (.slice e'))\/(∃z,zo=some z/\E.P.underlying tx=some (.int .i64)/\Fj E.P e=some z/\E.P.info? e=some i/\i.zero=some zv/\z.cells.length=i.size/\i.bytes<=65536))
 {y:AV}{uy:Value}{ys:List D}(hy:AM w (c.bar β s.V) β s.V.cn y uy) (hs:EU s.V zo y=some ys) :
 ∀(l:List D) (a:Option Addr) (sCap:Nat) (olds:List Value),C0 i.size ys->C0 i.size l->(∀x c,x∈l->c∈x.cells->c.one=true)->olds.length=l.length*i.size ->
  ((a=none/\l.length=0)\/∃ad,a=some ad/\∀(j:Nat) (v:Value),olds[j]?=some v->w.cell? (ad.add j)=some v) ->
  (∀(q:Nat) (x:D) (v:Value),(B5 l)[q]?=some x->olds[q]?=some v->Az w (c.bar β s.V) x v)->sCap<l.length+ys.length->l.length+ys.length<=C1 ->
  ∃vo w',(Builtin.append_ #[t,tx] ty #[.slice a l.length sCap,uy]).run E.P w=.ok vo w'/\Below w.heap.size w w'/\vo.oneCell'=true/\(∀b,C8 vo b->w.heap.size<=b/\b<w'.heap.size) /\
   ∀fb',(∀b,b<w.heap.size->fb' b->c.bar β s.V b)->CM w' fb' e i.size false (l++ys) vo:=by
 intro l a sCap olds huy hul h1l hol holds hold hroom hlen
 obtain⟨news,hsrc,hnews,hn1⟩:=Np h (e:=e) (zv:=zv) hy hs huy hpos hcase
 obtain⟨cap,cur,hrun,hc1,hc2,hcur⟩:=Nw (P:=E.P) (ty:=ty) ht hi hzv hby hsrc hol holds hroom hlen
 have hb:=Ja w (.cells cur e)
 have hnl:news.length=ys.length*i.size:=by have:=hnews.1;rw[B6 huy] at this;simpa using this
 refine⟨_,_,hrun,hb,rfl,fun b hbb=>by simp[C8,BX] at hbb;subst hbb;exact⟨Nat.le_refl _,by simp⟩,fun fb' hfb=>?_⟩
 have hlen2:(l++ys).length=l.length+ys.length:=by simp
 rw[←hlen2]
 refine bj (w':=w.drew.alloc (.cells cur e)) (heap_alloc_new w.drew _) hcur ?_ (by omega) hc2 hpos hul huy h1l hn1 hol (fun q x v hq hv=>(hold q x v hq hv).mono (.of_below hb) hfb)
  (fun q x v hq hv=>(hnews.2 q x v hq (by simpa using hv)).mono (.of_below hb) hfb) hnl
 rw[hcur]
 simp only[Array.size_append,List.size_toArray,List.length_append,size_zeroCells,hzs,hol,hnl,←Nat.add_mul]
 exact Nat.mul_le_mul_right _ (by omega)
theorem Zz (h:Br E c β s tm w) {t tx ty e:TypeId}{i:TypeInfo}{zv:Value}{zo:Option D}(ht:E.P.underlying t=some (.slice e)) (hi:E.P.info? e=some i) (hzv:i.zero=some zv) (hpos:0<i.size) (hby:i.bytes<=65536) (hzs:zv.cells.size=i.size)
  (hcase:(zo=none/\∃e',E.P.underlying tx=some (.slice e'))\/(∃z,zo=some z/\E.P.underlying tx=some (.int .i64)/\Fj E.P e=some z/\E.P.info? e=some i/\i.zero=some zv/\z.cells.length=i.size/\i.bytes<=65536))
  {y:AV}{uy:Value}{ys:List D}(hy:AM w (c.bar β s.V) β s.V.cn y uy) (hs:EU s.V zo y=some ys)
  {nl:Bool}{l:List D}{ux:Value}(hx:CM w (c.bar β s.V) e i.size nl l ux) (hmn:∀b,BX ux=some b->c.bar β s.V b) (hne:ys≠[]) (huy:C0 i.size ys) (hlen:l.length+ys.length<=C1) :
  ∃vo w',(Builtin.append_ #[t,tx] ty #[ux,uy]).run E.P w=.ok vo w'/\FR vo w w'/\vo.oneCell'=true/\(∀b,BX vo=some b->(w.heap.size<=b\/BX ux=some b)/\b<w'.heap.size)/\C8 vo=(BX vo=some ·) /\
   ∀fb',(∀b,b<w.heap.size->fb' b->c.bar β s.V b)->CM w' fb' e i.size false (l++ys) vo:=by
 have grow:=XG h (ty:=ty) ht hi hzv hpos hby hzs hcase hy hs
 have blkE:∀{a n m},C8 (.slice a n m)=(BX (.slice a n m)=some ·):=rfl
 have fin:∀(l:List D),(∃vo w',(Builtin.append_ #[t,tx] ty #[ux,uy]).run E.P w=.ok vo w'/\Below w.heap.size w w'/\vo.oneCell'=true/\(∀b,C8 vo b->w.heap.size<=b/\b<w'.heap.size)/\∀fb',(∀b,b<w.heap.size->fb' b->c.bar β s.V b)->CM w' fb' e i.size false (l++ys) vo) ->
   ∃vo w',(Builtin.append_ #[t,tx] ty #[ux,uy]).run E.P w=.ok vo w'/\FR vo w w'/\vo.oneCell'=true/\(∀b,BX vo=some b->(w.heap.size<=b\/BX ux=some b)/\b<w'.heap.size)/\C8 vo=(BX vo=some ·)/\∀fb',(∀b,b<w.heap.size->fb' b->c.bar β s.V b)->CM w' fb' e i.size false (l++ys) vo:=fun l ⟨vo,w',k1,k2,k3,k4,k5⟩=>by
  have hb:C8 vo=(BX vo=some ·):=by
   rcases k5 (c.bar β s.V) (fun b _ hb=>hb) with⟨h0,_⟩|⟨_,b,off,cap,cur,h0,_⟩
   ·cases h0
   ·rw[h0];rfl
  exact⟨vo,w',k1,.of_below _ k2,k3,fun b hb'=>by have:=k4 b (by rw[hb];exact hb');exact⟨.inl this.1,this.2⟩,hb,k5⟩
 rcases hx with⟨h1,h2,h3⟩|⟨h1,b,off,cap,cur,h2,h3,h4,h5,h6,h7,h8,h10,h9⟩
 ·subst h2 h3
  exact fin [] (grow [] none 0 [] huy (by simp[C0]) (by simp) (by simp) (.inl ⟨rfl,rfl⟩) (by simp[B5]) (by simpa using List.length_pos_iff.2 hne) (by simpa using hlen))
 ·subst h2
  by_cases hroom:l.length+ys.length<=cap
  ·
   obtain⟨news,hsrc,hnews,hn1⟩:=Np h (e:=e) (zv:=zv) hy hs huy hpos hcase
   have hnl:news.length=ys.length*i.size:=by have:=hnews.1;rw[B6 huy] at this;simpa using this
   have hfit:off+l.length*i.size+news.length<=cur.size:=by
    have:(l.length+ys.length)*i.size<=cap*i.size:=Nat.mul_le_mul_right _ hroom
    rw[Nat.add_mul] at this;omega
   have hrun:=Nv (P:=E.P) (ty:=ty) ht hi hzv hsrc h3 hroom hfit (fun v hv=>by
    obtain⟨q,hq⟩:=List.mem_iff_getElem?.1 hv
    have hql:q<(B5 ys).length:=by rw[B6 huy,←hnl];exact(List.getElem?_eq_some_iff.1 hq).1
    have hqx:(B5 ys)[q]?=some (B5 ys)[q]:=List.getElem?_eq_getElem hql
    exact(hnews.2 q _ v hqx (by simpa using hq)).oneCell (hn1 _ (List.mem_of_getElem? hqx)))
   have hlt:b<w.heap.size:=(Array.getElem?_eq_some_iff.1 h3).1
   have hmine:c.bar β s.V b:=hmn b rfl
   have hcl:(Bs cur.toList (off+l.length*i.size) news).length=cur.size:=by rw[CU (by simpa using hfit)];simp
   have hsc:∀(q:Nat),(Bs cur.toList (off+l.length*i.size) news).toArray[q]?=if off+l.length*i.size<=q/\q<off+l.length*i.size+news.length then news[q-(off+l.length*i.size)]? else cur[q]?:=by
    intro q
    rw[List.getElem?_toArray,Cs (by simpa using hfit)]
    simp
    by_cases k1:q<off+l.length*i.size
    ·rw[if_pos k1,if_neg (by omega)]
    ·rw[if_neg k1]
     by_cases k2:q<off+l.length*i.size+news.length
     ·rw[if_pos k2,if_pos ⟨by omega,k2⟩]
     ·rw[if_neg k2,if_neg (by omega)]
   have honly:FR (.slice (some ⟨b,off,none⟩) (l.length+ys.length) cap) w (w.setRow b (Bs cur.toList (off+l.length*i.size) news).toArray):=Dx rfl
   have hst:Ah (c.bar β s.V) w (w.setRow b (Bs cur.toList (off+l.length*i.size) news).toArray):=fun k hk hlk=>honly.block k hlk (by simp[C8,BX];rintro rfl;exact hk hmine)
   refine⟨_,_,hrun,honly,rfl,fun b' hb'=>by simp[BX] at hb';subst hb';exact⟨.inr rfl,by simpa using hlt⟩,rfl,fun fb' hf=>.inr ⟨rfl,b,off,cap,(Bs cur.toList (off+l.length*i.size) news).toArray,by simp,?_,by simpa using hroom,h5,by simpa[hcl] using h6,hpos,fun x hx=>(List.mem_append.1 hx).elim (h8 x) (huy x),
    fun x cc hx hc=>(List.mem_append.1 hx).elim (fun hh=>h10 x cc hh hc) (fun hh=>hn1 cc (List.mem_flatMap.2 ⟨x,hh,hc⟩)),fun p x j cc hp hj=>?_⟩⟩
   ·exact setRow_heap w b cur _ e _ h3
   ·have hjl:j<i.size:=by
     have:=(List.getElem?_eq_some_iff.1 hj).1
     have h11:x.cells.length=i.size:=(List.mem_append.1 (List.mem_of_getElem? hp)).elim (h8 x) (huy x)
     omega
    rw[hsc]
    by_cases hpl:p<l.length
    ·rw[List.getElem?_append_left hpl] at hp
     obtain⟨u,hu,hd⟩:=h9 p x j cc hp hj
     have:p*i.size+j<l.length*i.size:=by
      have:(p+1)*i.size<=l.length*i.size:=Nat.mul_le_mul_right _ hpl
      rw[Nat.add_mul] at this;omega
     rw[if_neg (by omega)]
     exact⟨u,hu,hd.mono hst hf⟩
    ·rw[List.getElem?_append_right (by omega)] at hp
     have hge:l.length*i.size<=p*i.size:=Nat.mul_le_mul_right _ (by omega)
     have hfy:=Gi huy hp hj
     have hql:=(List.getElem?_eq_some_iff.1 hfy).1
     rw[B6 huy] at hql
     have hsub:(p-l.length)*i.size=p*i.size-l.length*i.size:=Nat.sub_mul _ _ _
     rw[if_pos (by omega),show off+p*i.size+j-(off+l.length*i.size)=(p-l.length)*i.size+j by omega]
     have hqn:news[(p-l.length)*i.size+j]?=some (news[(p-l.length)*i.size+j]'(by omega)):=List.getElem?_eq_getElem (by omega)
     exact⟨_,hqn,(hnews.2 _ _ _ hfy (by simpa using hqn)).mono hst hf⟩
  ·
   have hcs:∀q,q<l.length*i.size->∃v,cur[off+q]?=some v:=fun q hq=>by
    have:l.length*i.size<=cap*i.size:=Nat.mul_le_mul_right _ h4
    exact⟨_,Array.getElem?_eq_getElem (by omega)⟩
   exact fin l (grow l (some ⟨b,off,none⟩) cap ((List.range (l.length*i.size)).map fun q=>cur.getD (off+q) undef) huy h8 h10 (by simp) (.inr ⟨_,rfl,fun j v hj=>by
     have hjl:j<l.length*i.size:=by have:=(List.getElem?_eq_some_iff.1 hj).1;simpa using this
     obtain⟨u,hu⟩:=hcs j hjl
     simp[hjl,Array.getD_eq_getD_getElem?,hu] at hj
     subst hj
     rw[Addr.add_lit,CC h3,hu]⟩) (fun q x v hq hv=>by
     have hql:q<l.length*i.size:=by rw[←B6 h8];exact(List.getElem?_eq_some_iff.1 hq).1
     have hdv:q/i.size<l.length:=Nat.div_lt_of_lt_mul (by rw[Nat.mul_comm];exact hql)
     have hmd:q%i.size<i.size:=Nat.mod_lt _ hpos
     have hp:l[q/i.size]?=some l[q/i.size]:=List.getElem?_eq_getElem hdv
     have hpl:=h8 _ (List.mem_of_getElem? hp)
     have hcx:l[q/i.size].cells[q%i.size]?=some (l[q/i.size].cells[q%i.size]'(by omega)):=List.getElem?_eq_getElem (by omega)
     have hfl:=Gi h8 hp hcx
     rw[Nat.mul_comm,Nat.div_add_mod,hq] at hfl
     simp at hfl
     obtain⟨u,hu,hd⟩:=h9 _ _ _ _ hp hcx
     rw[Nat.add_assoc,Nat.mul_comm,Nat.div_add_mod] at hu
     simp[hql,Array.getD_eq_getD_getElem?,hu] at hv
     subst hv;rw[hfl];exact hd) (by omega) hlen)
theorem Xq (h:Br E c β s tm w) {t tx ty e:TypeId}{i:TypeInfo}{zv:Value}{zo:Option D}(ht:E.P.underlying t=some (.slice e)) (hi:E.P.info? e=some i) (hzv:i.zero=some zv) (hpos:0<i.size) (hby:i.bytes<=65536) (hzs:zv.cells.size=i.size)
  (hcase:(zo=none/\∃e',E.P.underlying tx=some (.slice e'))\/(∃z,zo=some z/\E.P.underlying tx=some (.int .i64)/\Fj E.P e=some z/\E.P.info? e=some i/\i.zero=some zv/\z.cells.length=i.size/\i.bytes<=65536))
  {y:AV}{uy:Value}{ys:List D}(hy:AM w (c.bar β s.V) β s.V.cn y uy) (hs:EU s.V zo y=some ys)
  {j o g:Nat}{ux:Value}{e1 e2:Nat}{nl:Bool}{ix:List Nat}{rows:List (Bool×List D)}{x:Bool×List D}(hx:AM w (c.bar β s.V) β s.V.cn (.mref (.row j) o g) ux) (hg:s.V.get o g=some (.mat e1 e2 nl ix rows)) (hrow:rows[j]?=some x)
  (hes:i.size=1) (hol:o<C_) (hety:e=e2) (hal:KC x=true) (hne:ys≠[]) (huy:C0 i.size ys) (hlen:x.2.length+ys.length<=C1)
  (hK:K (.mref (.row rows.length) o g) (.keep o g (.mat e1 e2 nl ix (rows.set j (false,[])++[(false,x.2++ys)])))):GF E c s tm K ((Builtin.append_ #[t,tx] ty #[ux,uy]).run E.P w):=by
 subst hety
 have hob:=AL.get_some hg
 obtain⟨hlt,ho⟩:=h.objs _ _ _ hob
 cases hx with|mref _ _ _ ux _ hm hux1 =>
 obtain⟨v,hv⟩:∃v,β o g=v:=⟨_,rfl⟩
 rw[hv] at ho
 cases ho with|mat _ _ _ _ _ _ ho =>
 obtain⟨v0,vs,hvv,hlenv,h0,hr,hsep⟩:=ho
 have hv':=hv
 rw[hvv] at hv'
 rw[hv'] at hm
 simp only[EH,B_,List.getElem?_cons_succ] at hm
 have hrx:=(hr j x ux hrow hm).2 hal
 rw[←hes] at hrx
 have hblkr:∀{j u b},(v0::vs)[j]?=some u->BX u=some b->C8 (β o g) b:=fun {j u b} hj hb=>by rw[hv'];exact⟨j,u,by rw[B_];exact hj,hb⟩
 obtain⟨vo,w',k1,k2,k3,k4,k6,k5⟩:=Zz h (ty:=ty) ht hi hzv hpos hby hzs hcase hy hs hrx (fun b hb=>.inr ⟨o,g,_,hob,hblkr (j:=j+1) (by simpa using hm) hb⟩) hne huy hlen
 have hjl:j<rows.length:=(List.getElem?_eq_some_iff.1 hrow).1
 have hne':∀{q u b},(v0::vs)[q]?=some u->MC rows q->q≠j+1->BX u=some b->b<w.heap.size/\BX vo≠some b:=fun {q u b} hq ha hqj hb=>by
  have h1:=(h.home _ _ _ b hob (hblkr hq hb)).1
  refine⟨h1,fun hvo=>?_⟩
  rcases (k4 b hvo).1 with h2|h2
  ·omega
  ·exact hqj (hsep q (j+1) u ux b hq (by simpa using hm) ha (KB hrow hal) hb h2)
 have hkeep:∀{b},b<w.heap.size/\BX vo≠some b->w'.heap[b]?=w.heap[b]?:=fun {b} hb=>k2.block b hb.1 (by rw[k6];exact hb.2)
 have honly:FR (.tuple (v0::vs).toArray) w w':=⟨k2.os,k2.tape,k2.output,k2.size,fun k hk hn=>hkeep ⟨hk,fun hvo=>by
  rcases (k4 k hvo).1 with h2|h2
  ·omega
  ·exact hn ⟨j+1,ux,by rw[B_];simpa using hm,h2⟩⟩⟩
 have hst:Ah (c.bar β s.V) w w':=fun b hn hlt=>honly.block b hlt fun hb=>hn (.inr ⟨o,g,_,hob,by rw[hv'];exact hb⟩)
 have hal':∀{q},q≠vs.length+1->MC (rows.set j (false,[])++[(false,x.2++ys)]) q->MC rows q/\q≠j+1:=fun {q} hq ha=>by
  have h1:MC (rows.set j (false,[])) q:=ha.left
  refine⟨h1.unset hrow fun hh=>by simp[KC] at hh,fun hqj=>?_⟩
  subst hqj
  have:=h1.of (List.getElem?_set_self hjl)
  simp[KC] at this
 have hpart:∀{q u},(v0::(vs++[vo]))[q]?=some u->((v0::vs)[q]?=some u/\q≠vs.length+1)\/(q=vs.length+1/\u=vo):=fun {q u} hq=>by
  rw[←List.cons_append] at hq
  by_cases hql:q<(v0::vs).length
  ·rw[List.getElem?_append_left hql] at hq;exact .inl ⟨hq,by simp at hql;omega⟩
  ·rw[List.getElem?_append_right (by omega)] at hq
   have:=(List.getElem?_eq_some_iff.1 hq).1
   simp at this hql
   have hqq:q=vs.length+1:=by omega
   subst hqq
   simp at hq;exact .inr ⟨rfl,hq.symm⟩
 have hrel:=h.extend (l:=v0::vs) (us:=[vo]) (x:=.mat e1 e nl ix (rows.set j (false,[])++[(false,x.2++ys)])) hob hol hv' honly (fun b u hu hb=>by
  simp at hu;subst hu
  exact⟨(k4 b hb).1.imp_right fun h2=>hblkr (j:=j+1) (by simpa using hm) h2,(k4 b hb).2⟩) fun β' fb' hf=>by
   rw[List.cons_append]
   refine .mat _ _ _ _ _ _ ⟨v0,vs++[vo],rfl,by simp[hlenv],?_,fun q y u hyq hu=>?_,fun a a' u u' b ha ha' al al' hu hu'=>?_⟩
   ·rcases h0 with h0|⟨h01,b,off,cap,cur,h2,h3,h4,h5,h6,h7⟩
    ·exact .inl h0
    ·refine .inr ⟨h01,b,off,cap,cur,h2,?_,h4,h5,h6,fun p q hp=>?_⟩
     ·rw[hkeep (hne' (q:=0) rfl Sk (by omega) (by rw[h2];rfl))];exact h3
     ·obtain⟨u,hu1,hu2⟩:=h7 p q hp
      exact⟨u,by rw[List.getElem?_append_left (List.getElem?_eq_some_iff.1 hu1).1];exact hu1,hu2⟩
   ·rcases hpart (q:=q+1) (by simpa using hu) with⟨hu,hql⟩|⟨hql,rfl⟩
    ·simp only[List.getElem?_cons_succ] at hu
     rw[List.getElem?_append_left (by have:=(List.getElem?_eq_some_iff.1 hu).1;simp;omega)] at hyq
     by_cases hqj:q=j
     ·subst hqj
      rw[List.getElem?_set_self hjl] at hyq
      simp at hyq;subst hyq
      exact⟨by rw[hm] at hu;simp at hu;subst hu;exact hux1,fun ha=>by simp[KC] at ha⟩
     ·rw[List.getElem?_set_ne (Ne.symm hqj)] at hyq
      refine⟨(hr q y u hyq hu).1,fun ha=>?_⟩
      have hrw:=(hr q y u hyq hu).2 ha
      exact hrw.mono hst hf fun b hb _=>hkeep (hne' (q:=q+1) (by simpa using hu) (KB hyq ha) (by omega) (hrw.blk hb))
    ·have hq:q=rows.length:=by omega
     subst hq
     rw[List.getElem?_append_right (by simp)] at hyq
     simp at hyq;subst hyq
     exact⟨k3,fun _=>by have:=k5 fb' hf;rw[hes] at this;exact this⟩
   ·rcases hpart ha with⟨h1,h2⟩|⟨rfl,rfl⟩<;>rcases hpart ha' with⟨h3,h4⟩|⟨rfl,rfl⟩
    ·exact hsep a a' u u' b h1 h3 (hal' h2 al).1 (hal' h4 al').1 hu hu'
    ·exact absurd hu' (hne' h1 (hal' h2 al).1 (hal' h2 al).2 hu).2
    ·exact absurd hu (hne' h3 (hal' h4 al').1 (hal' h4 al').2 hu').2
    ·rfl
 refine⟨vo,w',_,_,_,k1,hK,hrel,.mref _ _ _ _ (by simpa[AL.app] using hlt) ?_ k3⟩
 rw[Bj]
 simp only[EH]
 rw[List.cons_append,B_,List.getElem?_cons_succ,←hlenv];simp
theorem Xr (h:Br E c β s tm w) {t tx ty e:TypeId}{i:TypeInfo}{zv:Value}{zo:Option D}{own:Bool}{dst:Option Nat}(ht:E.P.underlying t=some (.slice e)) (hi:E.P.info? e=some i) (hzv:i.zero=some zv) (hpos:0<i.size) (hby:i.bytes<=65536) (hzs:zv.cells.size=i.size)
  (hcase:(zo=none/\∃e',E.P.underlying tx=some (.slice e'))\/(∃z,zo=some z/\E.P.underlying tx=some (.int .i64)/\Fj E.P e=some z/\E.P.info? e=some i/\i.zero=some zv/\z.cells.length=i.size/\i.bytes<=65536))
  {k:MK}{o g:Nat}{y:AV}{ux uy:Value}(hx:AM w (c.bar β s.V) β s.V.cn (.mref k o g) ux) (hy:AM w (c.bar β s.V) β s.V.cn y uy) (he:ev E dst s.V (.app e i.size zo own) [.mref k o g,y] K) :
  GF E c s tm K ((Builtin.append_ #[t,tx] ty #[ux,uy]).run E.P w):=by
 unfold ev at he
 simp only at he
 split at he
 ·rename_i e1 e2 nl ix rows q p hg
  split at he
  ·rename_i e2' es2 nl2 l2 hg2
   obtain⟨hz,hol,hql,hoq,he1,hi1,he2,he3,hlen,hK⟩:=he
   replace he3:=he3.symm
   subst hz he1 he2 he3
   have hxt:∃e',E.P.underlying tx=some (.slice e'):=by
    rcases hcase with⟨_,hh⟩|⟨z,hh,_⟩
    ·exact hh
    ·cases hh
   obtain⟨e',hxt⟩:=hxt
   have hob:=AL.get_some hg
   have hob2:=AL.get_some hg2
   obtain⟨hlt,ho⟩:=h.objs _ _ _ hob
   obtain⟨hlt2,ho2⟩:=h.objs _ _ _ hob2
   cases hx with|mref _ _ _ ux _ hm hux1 =>
   cases hy with|ablk _ _ _ b1 base1 vs1 _ hb1 hne1 h11 hc1 hv1 huy =>
   subst huy
   have hcq:=hc1 0 _ rfl
   have hrq:=hv1 0 _ rfl
   obtain⟨uq,huq⟩:∃uq,vs1 0=uq:=⟨_,rfl⟩
   rw[huq] at hcq hrq
   obtain⟨vq,hvq⟩:∃vq,β q p=vq:=⟨_,rfl⟩
   have hquq:uq=vq/\vq.oneCell'=true:=by cases hrq with|own _ _ _ h1=>exact⟨hvq,hvq ▸ h1⟩
   obtain⟨rfl,huq1⟩:=hquq
   rw[hvq] at ho2
   cases ho2 with|row _ _ _ _ _ ho2 =>
   obtain⟨v,hv⟩:∃v,β o g=v:=⟨_,rfl⟩
   rw[hv] at ho
   cases ho with|mat _ _ _ _ _ _ ho =>
   obtain⟨v0,vs,hvv,hlenv,h0,hr,hsep⟩:=ho
   have hv':=hv
   rw[hvv] at hv'
   rw[hv'] at hm
   simp only[EH,B_,List.getElem?_cons_zero,Option.some.injEq] at hm
   replace hm:=hm.symm
   subst hm
   have hsrc:l6 E.P w i zv tx (.slice (some ⟨b1,base1,none⟩) 1 1) 1 [uq]:=.inl ⟨e',hxt,.inr ⟨_,1,rfl,by simp[hi1],fun j v hj=>by
    cases j with
    |zero=>simp at hj;subst hj;rw[Addr.add_lit];exact hcq
    |succ j=>simp at hj⟩⟩
   have hblkr:∀{j u b},vs[j]?=some u->BX u=some b->C8 (β o g) b:=fun {j u b} hj hb=>by rw[hv'];exact⟨j+1,u,by simpa using hj,hb⟩
   have hblkq:∀{b},BX uq=some b->C8 (β q p) b:=fun {b} hb=>by rw[hvq];exact ho2.blk2 hb
   have hrowx:∀{j u},vs[j]?=some u->∃x,rows[j]?=some x:=fun {j u} hj=>⟨_,List.getElem?_eq_getElem (by have:=(List.getElem?_eq_some_iff.1 hj).1;omega)⟩
   have fin:∀(vo:Value) (w':World),(Builtin.append_ #[t,tx] ty #[ux,.slice (some ⟨b1,base1,none⟩) 1 1]).run E.P w=.ok vo w'->vo.oneCell'=true->FR (.tuple (vo::(vs++[uq])).toArray) w w' ->
     (∀b,BX vo=some b->b<w'.heap.size/\(w.heap.size<=b\/BX ux=some b)) ->
     (∀k,k<w.heap.size->BX vo≠some k->w'.heap[k]?=w.heap[k]?) ->
     (∃b off cap cur,vo=.slice (some ⟨b,off,none⟩) (ix.length+1) cap/\w'.heap[b]?=some (.cells cur e (0,0))/\ix.length+1<=cap/\cap<=maxLen/\off+cap<=cur.size /\
      (∀(p j:Nat),ix[p]?=some j->∃u,vs[j]?=some u/\cur[off+p]?=some u)/\cur[off+ix.length]?=some uq) ->
     GF E c s tm K ((Builtin.append_ #[t,tx] ty #[ux,.slice (some ⟨b1,base1,none⟩) 1 1]).run E.P w):=by
    intro vo w' hrun hone honly hbo hkeep hcells
    have hux:∀{b},BX ux=some b->C8 (β o g) b:=fun {b} hb=>by rw[hv'];exact⟨0,_,by rw[B_];rfl,hb⟩
    have hsepq:∀{b},C8 (β o g) b->BX uq=some b->False:=fun {b} hb hq=>hoq (h.sep _ _ _ _ _ _ b hob hob2 hb (hblkq hq))
    have hpart:∀{j u},(vo::(vs++[uq]))[j]?=some u->(j=0/\u=vo)\/(∃j',j=j'+1/\vs[j']?=some u)\/(j=vs.length+1/\u=uq):=fun {j u} hj=>by
     cases j with
     |zero=>simp at hj;exact .inl ⟨rfl,hj.symm⟩
     |succ j =>
      simp only[List.getElem?_cons_succ] at hj
      by_cases hjl:j<vs.length
      ·rw[List.getElem?_append_left hjl] at hj;exact .inr (.inl ⟨j,rfl,hj⟩)
      ·rw[List.getElem?_append_right (by omega)] at hj
       have:=(List.getElem?_eq_some_iff.1 hj).1
       simp at this
       have hjj:j=vs.length:=by omega
       subst hjj
       simp at hj;exact .inr (.inr ⟨rfl,hj.symm⟩)
    have hblk:∀{b},C8 (.tuple (vo::(vs++[uq])).toArray) b->BX vo=some b\/(∃j u,vs[j]?=some u/\BX u=some b)\/BX uq=some b:=fun {b} hb=>by
     obtain⟨j,u,hj,hu⟩:=hb
     rw[B_] at hj
     rcases hpart hj with⟨_,rfl⟩|⟨j',_,hj'⟩|⟨_,rfl⟩
     ·exact .inl hu
     ·exact .inr (.inl ⟨j',u,hj',hu⟩)
     ·exact .inr (.inr hu)
    have hnr:∀{j u b},vs[j]?=some u->MC rows (j+1)->BX u=some b->b<w.heap.size/\BX vo≠some b:=fun {j u b} hj ha hu=>by
     have h1:=(h.home _ _ _ b hob (hblkr hj hu)).1
     refine⟨h1,fun hvo=>?_⟩
     rcases (hbo b hvo).2 with h2|h2
     ·omega
     ·have:=hsep 0 (j+1) _ u b rfl (by simpa using hj) Sk ha h2 hu
      omega
    have hnq:∀{b},BX uq=some b->b<w.heap.size/\BX vo≠some b:=fun {b} hu=>by
     have h1:=(h.home _ _ _ b hob2 (hblkq hu)).1
     refine⟨h1,fun hvo=>?_⟩
     rcases (hbo b hvo).2 with h2|h2
     ·omega
     ·exact hsepq (hux h2) hu
    have hst:Ah (c.bar β s.V) w w':=fun b hn hlt=>by
     refine hkeep b hlt fun hvo=>?_
     rcases (hbo b hvo).2 with h2|h2
     ·omega
     ·exact hn (.inr ⟨o,g,_,hob,hux h2⟩)
    have hrel1:=h.fresh2 (o:=o) q (x:=.mat e e2 false (ix++[rows.length]) (rows++[(nl2,l2)])) (vo:=.tuple (vo::(vs++[uq])).toArray) hol honly (fun b hb=>by
     rcases hblk hb with hb|⟨j,u,hj,hb⟩|hb
     ·obtain⟨k1,k2⟩:=hbo b hb
      refine⟨k1,k2.imp_right fun k2=>⟨o,g,_,.inl rfl,hob,hux k2⟩⟩
     ·exact⟨Nat.lt_of_lt_of_le (h.home _ _ _ b hob (hblkr hj hb)).1 honly.size,.inr ⟨o,g,_,.inl rfl,hob,hblkr hj hb⟩⟩
     ·exact⟨Nat.lt_of_lt_of_le (hnq hb).1 honly.size,.inr ⟨q,p,_,.inr rfl,hob2,hblkq hb⟩⟩) (fun β' fb' _ _ hf=>by
     refine .mat _ _ _ _ _ _ ⟨vo,vs++[uq],rfl,by simp[hlenv],.inr ⟨rfl,?_⟩,fun j x u hx hu=>?_,fun a a' u u' b ha ha' al al' hu hu'=>?_⟩
     ·obtain⟨b,off,cap,cur,k1,k2,k3,k4,k5,k6,k7⟩:=hcells
      refine⟨b,off,cap,cur,by rw[k1];simp,k2,by simpa using k3,k4,k5,fun p' j hp=>?_⟩
      by_cases hpl:p' < ix.length
      ·rw[List.getElem?_append_left hpl] at hp
       obtain⟨u,hu1,hu2⟩:=k6 p' j hp
       exact⟨u,by rw[List.getElem?_append_left (List.getElem?_eq_some_iff.1 hu1).1];exact hu1,hu2⟩
      ·rw[List.getElem?_append_right (by omega)] at hp
       have:=(List.getElem?_eq_some_iff.1 hp).1
       simp at this
       have hpp:p'=ix.length:=by omega
       subst hpp
       simp at hp;subst hp
       exact⟨uq,by rw[←hlenv];simp,k7⟩
     ·by_cases hjl:j<vs.length
      ·rw[List.getElem?_append_left hjl] at hu
       rw[List.getElem?_append_left (by omega)] at hx
       refine⟨(hr j x u hx hu).1,fun ha=>?_⟩
       have hrow:=(hr j x u hx hu).2 ha
       exact hrow.mono hst hf fun b hb _=>hkeep b (hnr hu (KB hx ha) (hrow.blk hb)).1 (hnr hu (KB hx ha) (hrow.blk hb)).2
      ·rw[List.getElem?_append_right (by omega)] at hu
       rw[List.getElem?_append_right (by omega)] at hx
       have:=(List.getElem?_eq_some_iff.1 hu).1
       simp at this
       have hjj:j=vs.length:=by omega
       subst hjj
       simp at hu;subst hu
       rw[hlenv] at hx;simp at hx;subst hx
       exact⟨huq1,fun _=>ho2.mono hst hf fun b hb _=>hkeep b (hnq (ho2.blk hb)).1 (hnq (ho2.blk hb)).2⟩
     ·rcases hpart ha with⟨rfl,rfl⟩|⟨j,rfl,hj⟩|⟨rfl,rfl⟩<;>rcases hpart ha' with⟨rfl,rfl⟩|⟨j',rfl,hj'⟩|⟨rfl,rfl⟩
      ·rfl
      ·exact absurd hu (hnr hj' al'.left hu').2
      ·exact absurd hu (hnq hu').2
      ·exact absurd hu' (hnr hj al.left hu).2
      ·exact hsep (j+1) (j'+1) u u' b (by simpa using hj) (by simpa using hj') al.left al'.left hu hu'
      ·exact(hsepq (hblkr hj hu) hu').elim
      ·exact absurd hu' (hnq hu).2
      ·exact(hsepq (hblkr hj' hu') hu).elim
      ·rfl)
    have hrel2:=hrel1.fresh (o:=q) (x:=.row e2 1 true []) hql (vo:=.slice none 0 0) (w':=w') (FR.of_below _ (Below.refl _ _)) (fun b hb=>by simp[C8,BX] at hb) fun β' fb' _ _ _=>.row _ _ _ _ _ (.inl ⟨rfl,rfl,rfl⟩)
    have hV:(AL.app (AL.app (AL.mk (CO s.V.ob q none) s.V.cn) (.fresh o (.mat e e2 false (ix++[rows.length]) (rows++[(nl2,l2)])))) (.fresh q (.row e2 1 true [])))=s.V.app (.seq (.fresh o (.mat e e2 false (ix++[rows.length]) (rows++[(nl2,l2)]))) (.fresh q (.row e2 1 true []))):=by
     simp only[AL.app]
     congr 1
     funext z
     by_cases h1:z=q<;>by_cases h2:z=o<;>simp[CO,h1,h2]
    refine⟨vo,w',_,_,_,hrun,hK,hV ▸ hrel2,?_⟩
    refine .mref _ _ _ _ (by simp[AL.app,CO,hoq]) ?_ hone
    have hne:¬(o=q/\s.V.cn o=(AL.app (AL.mk (CO s.V.ob q none) s.V.cn) (.fresh o (.mat e e2 false (ix++[rows.length]) (rows++[(nl2,l2)])))).cn q):=fun hh=>hoq hh.1
    simp only[ER,hne,if_false]
    simp[EH]
   have grow:∀(a:Option Addr) (sCap:Nat) (olds:List Value),ux=.slice a ix.length sCap->olds.length=ix.length*i.size->((a=none/\ix.length=0)\/∃ad,a=some ad/\∀(j:Nat) (v:Value),olds[j]?=some v->w.cell? (ad.add j)=some v) ->
     sCap<ix.length+1->(∀(p j:Nat),ix[p]?=some j->∃u,vs[j]?=some u/\olds[p]?=some u)->GF E c s tm K ((Builtin.append_ #[t,tx] ty #[ux,.slice (some ⟨b1,base1,none⟩) 1 1]).run E.P w):=by
    intro a sCap olds hux hol' holds hroom hcont
    obtain⟨cap,cur,hrun,hc1,hc2,hcur⟩:=Nw (P:=E.P) (ty:=ty) ht hi hzv hby hsrc hol' holds hroom hlen
    rw[←hux] at hrun
    have hbe:=Ja w (.cells cur e)
    rw[hi1,Nat.mul_one] at hol'
    have hcsz:cur.size=cap:=by
     rw[hcur]
     simp only[Array.size_append,List.size_toArray,List.length_append,size_zeroCells,hzs,hol',hi1,Nat.mul_one,List.length_cons,List.length_nil]
     omega
    refine fin _ _ hrun rfl (.of_below _ hbe) (fun b hb=>?_) (fun k hk _=>hbe.block k hk) ⟨w.heap.size,0,cap,cur,rfl,heap_alloc_new w.drew _,hc1,hc2,by omega,fun p' j hp=>?_,?_⟩
    ·simp[BX] at hb;subst hb;exact⟨by simp,.inl (Nat.le_refl _)⟩
    ·obtain⟨u,hu1,hu2⟩:=hcont p' j hp
     refine⟨u,hu1,?_⟩
     have hpl:=(List.getElem?_eq_some_iff.1 hu2).1
     rw[hcur,Nat.zero_add,Array.getElem?_append_left (by simp;omega),List.getElem?_toArray,List.getElem?_append_left hpl];exact hu2
    ·rw[hcur,Nat.zero_add,Array.getElem?_append_left (by simp;omega),List.getElem?_toArray,List.getElem?_append_right (by omega),hol'];simp
   rcases h0 with⟨h01,h02,h03⟩|⟨h01,b,off,cap,cur,h2,h3,h4,h5,h6,h7⟩
   ·subst h02 h03
    exact grow none 0 [] rfl (by simp) (.inl ⟨rfl,rfl⟩) (by simp) (fun p' j hp=>by simp at hp)
   ·by_cases hroom:ix.length+1<=cap
    ·subst h2
     have hrun:=Nv (P:=E.P) (ty:=ty) (b:=b) (off:=off) (sLen:=ix.length) (sCap:=cap) ht hi hzv hsrc h3 hroom (by rw[hi1];simp;omega) (fun v hv=>by simp at hv;subst hv;exact huq1)
     rw[hi1,Nat.mul_one] at hrun
     have hfit:off+ix.length+[uq].length<=cur.toList.length:=by simp;omega
     refine fin _ _ hrun rfl (Dx ⟨0,_,by rw[B_];rfl,rfl⟩) (fun b' hb=>?_) (fun k hk hne=>setRow_other w b k _ fun hkb=>hne (by rw[hkb];rfl)) ⟨b,off,cap,(Bs cur.toList (off+ix.length) [uq]).toArray,rfl,setRow_heap w b cur _ _ _ h3,hroom,h5,?_,fun p' j hp=>?_,?_⟩
     ·simp[BX] at hb;subst hb
      exact⟨by have:=(Array.getElem?_eq_some_iff.1 h3).1;simpa[World.setRow] using this,.inr rfl⟩
     ·rw[List.size_toArray,CU hfit];simpa using h6
     ·obtain⟨u,hu1,hu2⟩:=h7 p' j hp
      have hpl:=(List.getElem?_eq_some_iff.1 hp).1
      refine⟨u,hu1,?_⟩
      rw[List.getElem?_toArray,Cs hfit,if_pos (by omega)];simpa using hu2
     ·rw[List.getElem?_toArray,Cs hfit,if_neg (by omega),if_pos (by simp)];simp
    ·have hcs:∀q,q<ix.length->∃v,cur[off+q]?=some v:=fun q hq=>⟨_,Array.getElem?_eq_getElem (by omega)⟩
     refine grow (some ⟨b,off,none⟩) cap ((List.range ix.length).map fun q=>cur.getD (off+q) undef) h2 (by simp[hi1]) (.inr ⟨_,rfl,fun j v hj=>?_⟩) (by omega) (fun p' j hp=>?_)
     ·have hjl:j<ix.length:=by have:=(List.getElem?_eq_some_iff.1 hj).1;simpa using this
      obtain⟨u,hu⟩:=hcs j hjl
      simp[hjl,Array.getD_eq_getD_getElem?,hu] at hj
      subst hj
      rw[Addr.add_lit,CC h3,hu]
     ·obtain⟨u,hu1,hu2⟩:=h7 p' j hp
      have hpl:=(List.getElem?_eq_some_iff.1 hp).1
      exact⟨u,hu1,by simp[hpl,Array.getD_eq_getD_getElem?,hu2]⟩
  ·exact he.elim
 ·rename_i j e1 e2 nl ix rows hg
  split at he
  ·rename_i x ys hrow hs
   obtain⟨h1,h2,h3,h4,h5,h6,h7,hK⟩:=he
   exact Xq h ht hi hzv hpos hby hzs hcase hy hs hx hg hrow h1 h2 h3 h4 h5 h6 h7 hK
  ·exact he.elim
 ·exact he.elim
theorem TZ (h:Br E c β s tm w) {t tx ty e:TypeId}{i:TypeInfo}{zv:Value}{zo:Option D}{own:Bool}{dst:Option Nat}(ht:E.P.underlying t=some (.slice e)) (hi:E.P.info? e=some i) (hzv:i.zero=some zv) (hpos:0<i.size) (hby:i.bytes<=65536) (hzs:zv.cells.size=i.size)
  (hcase:(zo=none/\∃e',E.P.underlying tx=some (.slice e'))\/(∃z,zo=some z/\E.P.underlying tx=some (.int .i64)/\Fj E.P e=some z/\E.P.info? e=some i/\i.zero=some zv/\z.cells.length=i.size/\i.bytes<=65536))
  {x y:AV}{ux uy:Value}(hx:AM w (c.bar β s.V) β s.V.cn x ux) (hy:AM w (c.bar β s.V) β s.V.cn y uy) (he:ev E dst s.V (.app e i.size zo own) [x,y] K) :
  GF E c s tm K ((Builtin.append_ #[t,tx] ty #[ux,uy]).run E.P w):=by
 have hx0:(∃k o g,x=.mref k o g)\/∀k o g,x≠.mref k o g:=by cases x<;>simp
 rcases hx0 with⟨k,o,g,rfl⟩|hx0
 ·exact Xr h ht hi hzv hpos hby hzs hcase hx hy he
 unfold ev at he
 simp only[hx0] at he
 split at he
 ·exact he.elim
 rename_i ys hs
 have grow:=XG h (ty:=ty) ht hi hzv hpos hby hzs hcase hy hs
 have nilgrow:C0 i.size ys->ys.length<=C1->ys≠[]->∃vo w',(Builtin.append_ #[t,tx] ty #[.slice none 0 0,uy]).run E.P w=.ok vo w'/\Below w.heap.size w w'/\vo.oneCell'=true/\(∀b,C8 vo b->w.heap.size<=b/\b<w'.heap.size) /\
    ∀fb',(∀b,b<w.heap.size->fb' b->c.bar β s.V b)->CM w' fb' e i.size false ys vo:=by
  intro huy hlen hne
  have hp:0<ys.length:=List.length_pos_iff.2 hne
  have:=grow [] none 0 [] huy (by simp[C0]) (by simp) (by simp) (.inl ⟨rfl,rfl⟩) (by simp[B5]) (by simpa using hp) (by simpa using hlen)
  simpa using this
 have nilzero:ys=[]->(Builtin.append_ #[t,tx] ty #[.slice none 0 0,uy]).run E.P w=.ok (.slice none 0 0) w:=by
  intro hne;subst hne
  obtain⟨news,hsrc,_,_⟩:=Np h (e:=e) (zv:=zv) hy hs (by simp[C0]) hpos hcase
  exact(Js (P:=E.P) (ty:=ty) ht hi hzv hsrc (a:=none) (Nat.le_refl 0)).1
 split at he
 ·
  rename_i o g
  split at he
  ·rename_i ety' es' nl l hg
   obtain⟨hol,rfl,rfl,huy,hlen,he⟩:=he
   cases hx with
   |own _ _ hgg hone =>
    obtain⟨_,ho⟩:=h.objs _ _ _ (AL.get_some hg)
    have hvo:∃v,β o g=v:=⟨_,rfl⟩
    obtain⟨v,hv⟩:=hvo
    rw[hv] at ho ⊢
    cases ho with
    |row _ _ _ _ _ ho =>
     by_cases hne:ys=[]
     ·subst hne
      obtain⟨news,hsrc,_,_⟩:=Np h (e:=e) (zv:=zv) hy hs (by simp[C0]) hpos hcase
      have hb:∃a cap,v=.slice a l.length cap/\l.length<=cap:=by
       rcases ho with⟨_,h2,h3⟩|⟨_,b,off,cap,cur,h2,_,h4,_⟩
       ·subst h2;exact⟨_,_,h3,Nat.le_refl _⟩
       ·exact⟨_,_,h2,h4⟩
      obtain⟨a,cap,hva,hca⟩:=hb
      have hz:=(Js (P:=E.P) (ty:=ty) ht hi hzv hsrc (a:=a) hca).1
      rw[←hva] at hz
      simp only[List.isEmpty_nil,Bool.and_true,List.append_nil] at he
      have hbv:∀b,C8 v b->C8 (β o g) b:=fun b hb=>by rw[hv];exact hb
      have hrel:=h.fresh (o:=o) (x:=.row e i.size nl l) hol (vo:=v) (w':=w) (FR.refl _ _) (fun b hb=>⟨(h.home _ _ _ b (AL.get_some hg) (hbv b hb)).1,.inr ⟨g,_,AL.get_some hg,hbv b hb⟩⟩) (fun β' fb' _ _ hf=>.row _ _ _ _ _ (ho.mono (Ah.refl _ _) hf fun _ _ _=>rfl))
      exact⟨_,_,_,_,_,hz,he,hrel,AM.own_new (by rw[hva];rfl) (FQ _ _ _)⟩
     ·obtain⟨vo,w',k1,k2,k3,k4,k6,k5⟩:=Zz h (ty:=ty) ht hi hzv hpos hby hzs hcase hy hs ho (fun b hb=>.inr ⟨o,g,_,AL.get_some hg,by rw[hv];exact ho.blk2 hb⟩) hne huy hlen
      have hie:ys.isEmpty=false:=by cases ys<;>simp_all
      rw[hie,Bool.and_false] at he
      have hrel:=h.fresh (o:=o) (x:=.row e i.size false (l++ys)) hol (vo:=vo) k2 (fun b hb=>by
       rw[k6] at hb
       exact⟨(k4 b hb).2,(k4 b hb).1.imp_right fun hb=>⟨g,_,AL.get_some hg,by rw[hv];exact ho.blk2 hb⟩⟩) (fun β' fb' _ _ hf=>.row _ _ _ _ _ (k5 fb' hf))
      exact⟨_,_,_,_,_,k1,he,hrel,AM.own_new k3 (FQ _ _ _)⟩
  ·exact he.elim
 ·
  obtain⟨huy,hlen,he⟩:=he
  cases hx with
  |d _ _ hx =>
   have hux:ux=.slice none 0 0:=by cases hx;rfl
   subst hux
   by_cases hne:ys=[]
   ·have hz:=nilzero hne
    subst hne
    split at he
    ·split at he
     ·rename_i t'
      obtain⟨β',h5,h6⟩:=JV h (t:=t') he.1 (XC w) (ety:=e) (es:=i.size) (nl:=true) (l:=[]) (vo:=.slice none 0 0) rfl (fun b hb=>by simp[C8,BX] at hb) fun fb' _=>.inl ⟨rfl,rfl,rfl⟩
      exact⟨_,_,_,_,β',hz,he.2,h5,h6⟩
     ·exact he.elim
    ·exact CF h he hz (.d _ _ .nil)
   ·obtain⟨vo,w',k1,k2,k3,k4,k5⟩:=nilgrow huy hlen hne
    have hie:ys.isEmpty=false:=by cases ys<;>simp_all
    rw[hie] at he
    split at he
    ·split at he
     ·rename_i t'
      obtain⟨β',h5,h6⟩:=JV h (t:=t') he.1 k2 k3 k4 k5
      exact⟨_,_,_,_,β',k1,he.2,h5,h6⟩
     ·exact he.elim
    ·refine⟨_,_,_,.none,β,k1,he,h.grow k2,.d _ _ (C4 (k5 _ fun b _ hb=>hb) fun b hb hbar=>?_)⟩
     have:=H1 h hbar;have:=(k4 b hb).1;omega
 ·
  rename_i l
  obtain⟨hu,hlen,he⟩:=he
  have hul:C0 i.size l:=fun x hx=>hu x (by simp[hx])
  have huy:C0 i.size ys:=fun x hx=>hu x (by simp[hx])
  cases hx with
  |ex _ a hx =>
   by_cases hne:ys=[]
   ·subst hne
    obtain⟨news,hsrc,_,_⟩:=Np h (e:=e) (zv:=zv) hy hs (by simp[C0]) hpos hcase
    have hz:=(Js (P:=E.P) (ty:=ty) ht hi hzv hsrc (a:=some a) (Nat.le_refl l.length)).1
    split at he
    ·split at he
     ·exact CF h he hz (.ex _ a hx)
     ·exact he.elim
    ·simp only[List.append_nil] at he
     exact CF h he hz (.d _ _ hx)
   ·have hyp:0<ys.length:=List.length_pos_iff.2 hne
    obtain⟨olds,hsl,hol,ho1⟩:=Nq (E:=E) (tx:=t) (z:=zv) hx hul hpos ht
    have hlo:olds.length=l.length*i.size:=by have:=hol.1;rw[B6 hul] at this;simpa using this
    have hcells:∀(j:Nat) (v:Value),olds[j]?=some v->w.cell? (a.add j)=some v:=by
     rcases hsl with⟨e',_,⟨h1,_,_⟩|⟨a',cap,h1,_,h2⟩⟩|⟨_,h1,_⟩
     ·cases h1
     ·simp at h1;obtain⟨rfl,_⟩:=h1;exact h2
     ·cases h1
    obtain⟨vo,w',k1,k2,k3,k4,k5⟩:=grow l (some a) l.length olds huy hul (fun x cc hx hc=>ho1 cc (List.mem_flatMap.2 ⟨x,hx,hc⟩)) hlo (.inr ⟨a,rfl,hcells⟩) (fun q x v hq hv=>hol.2 q x v hq (by simpa using hv)) (by omega) hlen
    split at he
    ·split at he
     ·rename_i t'
      split at he
      ·exact absurd rfl hne
      ·obtain⟨β',h5,h6⟩:=JV h (t:=t') he.1 k2 k3 k4 k5
       exact⟨_,_,_,_,β',k1,he.2,h5,h6⟩
     ·exact he.elim
    ·refine⟨_,_,_,.none,β,k1,he,h.grow k2,.d _ _ (C4 (k5 _ fun b _ hb=>hb) fun b hb hbar=>?_)⟩
     have:=H1 h hbar;have:=(k4 b hb).1;omega
 ·exact he.elim
end
end Go.Pw
end
section
namespace Go.Pw
open Go.RowKit
theorem GI (ρ:Ren):∀l:List AV,AV.ren.renL ρ l=BV (AV.ren ρ) l
 |[]=>rfl
 |x::xs=>by simp only[AV.ren.renL,BV,GI ρ xs];cases x.ren ρ with
  |none=>rfl
  |some y=>cases BV (AV.ren ρ) xs<;>rfl
theorem MH {ρ:Ren}{x y:AV}(h:x.ren ρ=some y):y.one=x.one:=by
 cases x<;>(try simp only[AV.ren] at h)<;>first
  |(cases h;done)
  |(split at h<;>simp at h<;>subst h<;>rfl)
  |(simp at h;subst h;rfl)
  |(simp at h;done)
theorem AM.ren {w:World}{fb fb':Nat->Prop}{β β':Nat->Nat->Value}{cn cn':Nat->Nat}{ρ:Ren}(hf:∀b,b<w.heap.size->fb' b->fb b)
  (hn:∀o g q,ρ.get o g=some q->β' q.1 q.2=β o g/\q.2<cn' q.1) {x:AV}{v:Value}(h:AM w fb β cn x v):∀{y:AV},x.ren ρ=some y->AM w fb' β' cn' y v:=by
 induction h with
 |d x v h=>intro y hy;simp[AV.ren] at hy;subst hy;exact .d x v (h.mono (Ah.refl _ _) hf)
 |ex xs a h=>intro y hy;simp[AV.ren] at hy;subst hy;exact .ex xs a (h.mono (Ah.refl _ _) hf)
 |agg cs vs hl h1 h ih =>
  intro y hy
  simp only[AV.ren] at hy
  split at hy
  ·rename_i l hrl
   simp at hy;subst hy
   rw[GI] at hrl
   refine .agg l vs (by rw[Aw hrl];exact hl) (fun y hy=>?_) (fun i y v hy hv=>?_)
   ·obtain⟨x,hx,hxy⟩:=EL hrl hy
    rw[MH hxy];exact h1 x hx
   ·obtain⟨x,hx,hxy⟩:=Bi hrl hy
    exact ih i x v hx hv hxy
  ·cases hy
 |ptr o g off b hg h =>
  intro y hy
  simp only[AV.ren] at hy
  split at hy
  ·rename_i q hq;simp at hy;subst hy;exact .ptr _ _ _ b (hn o g q hq).2 ((hn o g q hq).1.trans h)
  ·cases hy
 |rptr o g es i off b b0 n cap hg h =>
  intro y hy
  simp only[AV.ren] at hy
  split at hy
  ·rename_i q hq;simp at hy;subst hy;exact .rptr _ _ _ _ _ b b0 n cap (hn o g q hq).2 ((hn o g q hq).1.trans h)
  ·cases hy
 |dptr cs off b base vs hb hne h1 hc hv =>
  intro y hy
  simp[AV.ren] at hy;subst hy
  cases cs with
  |nil=>exact absurd rfl hne
  |cons z zs =>
   have hlt:b<w.heap.size:=CK (hc 0 z (by simp))
   exact .dptr _ off b base vs (fun hh=>hb (hf b hlt hh)) hne h1 hc (fun j c h1=>(hv j c h1).mono (Ah.refl _ _) hf)
 |own o g hg h1 =>
  intro y hy
  simp only[AV.ren] at hy
  split at hy
  ·rename_i q hq;simp at hy;subst hy
   rw[←(hn o g q hq).1];exact .own _ _ (hn o g q hq).2 (by rw[(hn o g q hq).1];exact h1)
  ·cases hy
 |map o g hg h1 =>
  intro y hy
  simp only[AV.ren] at hy
  split at hy
  ·rename_i q hq;simp at hy;subst hy
   rw[←(hn o g q hq).1];exact .map _ _ (hn o g q hq).2 (by rw[(hn o g q hq).1];exact h1)
  ·cases hy
 |fn f cs vs hl h ih =>
  intro y hy
  simp only[AV.ren] at hy
  split at hy
  ·rename_i l hrl
   simp at hy;subst hy
   rw[GI] at hrl
   refine .fn f l vs (by rw[Aw hrl];exact hl) (fun i y v hy hv=>?_)
   obtain⟨x,hx,hxy⟩:=Bi hrl hy
   exact ih i x v hx hv hxy
  ·cases hy
 |tup cs vs hl h ih =>
  intro y hy
  simp only[AV.ren] at hy
  split at hy
  ·rename_i l hrl
   simp at hy;subst hy
   rw[GI] at hrl
   refine .tup l vs (by rw[Aw hrl];exact hl) (fun i y v hy hv=>?_)
   obtain⟨x,hx,hxy⟩:=Bi hrl hy
   exact ih i x v hx hv hxy
  ·cases hy
 |undef v=>intro y hy;simp[AV.ren] at hy;subst hy;exact .undef v
 |bnd f cs vs hl h=>intro y hy;simp[AV.ren] at hy
 |mref k o g u hg h h1 =>
  intro y hy
  simp only[AV.ren] at hy
  split at hy
  ·rename_i q hq;simp at hy;subst hy;exact .mref _ _ _ _ (hn o g q hq).2 (by rw[(hn o g q hq).1];exact h) h1
  ·cases hy
 |ablk sl cs off b base vs u hb hne h1 hc hv hu ih =>
  intro y hy
  simp only[AV.ren] at hy
  split at hy
  ·rename_i l hrl
   simp at hy;subst hy
   rw[GI] at hrl
   cases cs with
   |nil=>exact absurd rfl hne
   |cons z zs =>
    have hlt:b<w.heap.size:=CK (hc 0 z (by simp))
    refine .ablk sl l off b base vs u (fun hh=>hb (hf b hlt hh)) (fun hl0=>by have:=Aw hrl;rw[hl0] at this;simp at this) (fun y hy=>?_) (fun j y hy=>?_) (fun j y hy=>?_) (by rw[Aw hrl];exact hu)
    ·obtain⟨x,hx,hxy⟩:=EL hrl hy
     rw[MH hxy];exact h1 x hx
    ·obtain⟨x,hx,hxy⟩:=Bi hrl hy
     exact hc j x hx
    ·obtain⟨x,hx,hxy⟩:=Bi hrl hy
     exact ih j x hx hxy
  ·cases hy
theorem AM.unren {w:World}{fb fb':Nat->Prop}{β β':Nat->Nat->Value}{cn cn':Nat->Nat}{ρ:Ren}(hf:∀b,b<w.heap.size->fb' b->fb b)
  (hn:∀o g q,ρ.get o g=some q->β' o g=β q.1 q.2/\g<cn' o) {y:AV}{v:Value}(h:AM w fb β cn y v):∀{x:AV},x.ren ρ=some y->AM w fb' β' cn' x v:=by
 have inv:∀{x y:AV},x.ren ρ=some y->(∃o g off q,x=.ptr o g off/\ρ.get o g=some q/\y=.ptr q.1 q.2 off)\/(∃o g es i off q,x=.rptr o g es i off/\ρ.get o g=some q/\y=.rptr q.1 q.2 es i off) \/
   (∃o g q,x=.own o g/\ρ.get o g=some q/\y=.own q.1 q.2)\/(∃o g q,x=.map o g/\ρ.get o g=some q/\y=.map q.1 q.2) \/
   (∃cs l,x=.agg cs/\BV (AV.ren ρ) cs=some l/\y=.agg l)\/(∃f cs l,x=.fn f cs/\BV (AV.ren ρ) cs=some l/\y=.fn f l)\/(∃cs l,x=.tup cs/\BV (AV.ren ρ) cs=some l/\y=.tup l) \/
   (∃k o g q,x=.mref k o g/\ρ.get o g=some q/\y=.mref k q.1 q.2)\/(∃sl cs off l,x=.ablk sl cs off/\BV (AV.ren ρ) cs=some l/\y=.ablk sl l off) \/
   (x=y/\((∃d,y=.d d)\/(∃l,y=.ex l)\/(∃cs n,y=.dptr cs n)\/y=.undef)):=by
  intro x y hx
  cases x with
  |bnd f cs=>simp[AV.ren] at hx
  |ptr o g off =>
   simp only[AV.ren] at hx;split at hx
   ·rename_i q hq;simp at hx;exact .inl ⟨o,g,off,q,rfl,hq,hx.symm⟩
   ·cases hx
  |rptr o g es i off =>
   simp only[AV.ren] at hx;split at hx
   ·rename_i q hq;simp at hx;exact .inr (.inl ⟨o,g,es,i,off,q,rfl,hq,hx.symm⟩)
   ·cases hx
  |own o g =>
   simp only[AV.ren] at hx;split at hx
   ·rename_i q hq;simp at hx;exact .inr (.inr (.inl ⟨o,g,q,rfl,hq,hx.symm⟩))
   ·cases hx
  |map o g =>
   simp only[AV.ren] at hx;split at hx
   ·rename_i q hq;simp at hx;exact .inr (.inr (.inr (.inl ⟨o,g,q,rfl,hq,hx.symm⟩)))
   ·cases hx
  |agg cs =>
   simp only[AV.ren,GI] at hx;split at hx
   ·rename_i l hl;simp at hx;exact .inr (.inr (.inr (.inr (.inl ⟨cs,l,rfl,hl,hx.symm⟩))))
   ·cases hx
  |fn f cs =>
   simp only[AV.ren,GI] at hx;split at hx
   ·rename_i l hl;simp at hx;exact .inr (.inr (.inr (.inr (.inr (.inl ⟨f,cs,l,rfl,hl,hx.symm⟩)))))
   ·cases hx
  |tup cs =>
   simp only[AV.ren,GI] at hx;split at hx
   ·rename_i l hl;simp at hx;exact .inr (.inr (.inr (.inr (.inr (.inr (.inl ⟨cs,l,rfl,hl,hx.symm⟩))))))
   ·cases hx
  |mref k o g =>
   simp only[AV.ren] at hx;split at hx
   ·rename_i q hq;simp at hx;exact .inr (.inr (.inr (.inr (.inr (.inr (.inr (.inl ⟨k,o,g,q,rfl,hq,hx.symm⟩)))))))
   ·cases hx
  |ablk sl cs off =>
   simp only[AV.ren,GI] at hx;split at hx
   ·rename_i l hl;simp at hx;exact .inr (.inr (.inr (.inr (.inr (.inr (.inr (.inr (.inl ⟨sl,cs,off,l,rfl,hl,hx.symm⟩))))))))
   ·cases hx
  |d z=>simp[AV.ren] at hx;exact .inr (.inr (.inr (.inr (.inr (.inr (.inr (.inr (.inr ⟨hx,.inl ⟨z,hx.symm⟩⟩))))))))
  |ex z=>simp[AV.ren] at hx;exact .inr (.inr (.inr (.inr (.inr (.inr (.inr (.inr (.inr ⟨hx,.inr (.inl ⟨z,hx.symm⟩)⟩))))))))
  |dptr z n=>simp[AV.ren] at hx;exact .inr (.inr (.inr (.inr (.inr (.inr (.inr (.inr (.inr ⟨hx,.inr (.inr (.inl ⟨z,n,hx.symm⟩))⟩))))))))
  |undef=>simp[AV.ren] at hx;exact .inr (.inr (.inr (.inr (.inr (.inr (.inr (.inr (.inr ⟨hx,.inr (.inr (.inr hx.symm))⟩))))))))
 induction h with
 |d z v h =>
  intro x hx
  rcases inv hx with⟨_,_,_,_,_,_,h⟩|⟨_,_,_,_,_,_,_,_,h⟩|⟨_,_,_,_,_,h⟩|⟨_,_,_,_,_,h⟩|⟨_,_,_,_,h⟩|⟨_,_,_,_,_,h⟩|⟨_,_,_,_,h⟩|⟨_,_,_,_,_,_,h⟩|⟨_,_,_,_,_,_,h⟩|⟨rfl,_⟩<;>first|exact .d _ _ (h.mono (Ah.refl _ _) hf)|cases h
 |ex xs a h =>
  intro x hx
  rcases inv hx with⟨_,_,_,_,_,_,h⟩|⟨_,_,_,_,_,_,_,_,h⟩|⟨_,_,_,_,_,h⟩|⟨_,_,_,_,_,h⟩|⟨_,_,_,_,h⟩|⟨_,_,_,_,_,h⟩|⟨_,_,_,_,h⟩|⟨_,_,_,_,_,_,h⟩|⟨_,_,_,_,_,_,h⟩|⟨rfl,_⟩<;>first|exact .ex _ _ (h.mono (Ah.refl _ _) hf)|cases h
 |agg l vs hl h1 h ih =>
  intro x hx
  rcases inv hx with⟨_,_,_,_,_,_,h⟩|⟨_,_,_,_,_,_,_,_,h⟩|⟨_,_,_,_,_,h⟩|⟨_,_,_,_,_,h⟩|⟨cs,l',rfl,hrl,h⟩|⟨_,_,_,_,_,h⟩|⟨_,_,_,_,h⟩|⟨_,_,_,_,_,_,h⟩|⟨_,_,_,_,_,_,h⟩|⟨rfl,⟨_,h⟩|⟨_,h⟩|⟨_,_,h⟩|h⟩<;>cases h
  refine .agg cs vs (by rw[←Aw hrl];exact hl) (fun z hz=>?_) (fun i z v hz hv=>?_)
  ·obtain⟨i,hi⟩:=List.getElem?_of_mem hz
   obtain⟨y,hy,hxy⟩:=Cw hrl hi
   rw[←MH hxy];exact h1 y (List.mem_of_getElem? hy)
  ·obtain⟨y,hy,hxy⟩:=Cw hrl hz
   exact ih i y v hy hv hxy
 |ptr o g off b hg h =>
  intro x hx
  rcases inv hx with⟨_,_,_,q,rfl,hq,h⟩|⟨_,_,_,_,_,_,_,_,h⟩|⟨_,_,_,_,_,h⟩|⟨_,_,_,_,_,h⟩|⟨_,_,_,_,h⟩|⟨_,_,_,_,_,h⟩|⟨_,_,_,_,h⟩|⟨_,_,_,_,_,_,h⟩|⟨_,_,_,_,_,_,h⟩|⟨rfl,⟨_,h⟩|⟨_,h⟩|⟨_,_,h⟩|h⟩<;>cases h
  exact .ptr _ _ _ b (hn _ _ q hq).2 ((hn _ _ q hq).1.trans (by assumption))
 |rptr o g es i off b b0 n cap hg h =>
  intro x hx
  rcases inv hx with⟨_,_,_,q,_,hq,h⟩|⟨_,_,_,_,_,q,rfl,hq,h⟩|⟨_,_,_,_,_,h⟩|⟨_,_,_,_,_,h⟩|⟨_,_,_,_,h⟩|⟨_,_,_,_,_,h⟩|⟨_,_,_,_,h⟩|⟨_,_,_,_,_,_,h⟩|⟨_,_,_,_,_,_,h⟩|⟨rfl,⟨_,h⟩|⟨_,h⟩|⟨_,_,h⟩|h⟩<;>cases h
  exact .rptr _ _ _ _ _ b b0 n cap (hn _ _ q hq).2 ((hn _ _ q hq).1.trans (by assumption))
 |dptr cs off b base vs hb hne h1 hc hv =>
  intro x hx
  rcases inv hx with⟨_,_,_,_,_,_,h⟩|⟨_,_,_,_,_,_,_,_,h⟩|⟨_,_,_,_,_,h⟩|⟨_,_,_,_,_,h⟩|⟨_,_,_,_,h⟩|⟨_,_,_,_,_,h⟩|⟨_,_,_,_,h⟩|⟨_,_,_,_,_,_,h⟩|⟨_,_,_,_,_,_,h⟩|⟨rfl,_⟩<;>try cases h
  cases cs with
  |nil=>exact absurd rfl hne
  |cons z zs =>
   have hlt:b<w.heap.size:=CK (hc 0 z (by simp))
   exact .dptr _ off b base vs (fun hh=>hb (hf b hlt hh)) hne h1 hc (fun j c h1=>(hv j c h1).mono (Ah.refl _ _) hf)
 |own o g hg h1 =>
  intro x hx
  rcases inv hx with⟨_,_,_,_,_,_,h⟩|⟨_,_,_,_,_,_,_,_,h⟩|⟨_,_,q,rfl,hq,h⟩|⟨_,_,_,_,_,h⟩|⟨_,_,_,_,h⟩|⟨_,_,_,_,_,h⟩|⟨_,_,_,_,h⟩|⟨_,_,_,_,_,_,h⟩|⟨_,_,_,_,_,_,h⟩|⟨rfl,⟨_,h⟩|⟨_,h⟩|⟨_,_,h⟩|h⟩<;>cases h
  rw[←(hn _ _ q hq).1] at h1 ⊢;exact .own _ _ (hn _ _ q hq).2 h1
 |map o g hg h1 =>
  intro x hx
  rcases inv hx with⟨_,_,_,_,_,_,h⟩|⟨_,_,_,_,_,_,_,_,h⟩|⟨_,_,q,_,hq,h⟩|⟨_,_,q,rfl,hq,h⟩|⟨_,_,_,_,h⟩|⟨_,_,_,_,_,h⟩|⟨_,_,_,_,h⟩|⟨_,_,_,_,_,_,h⟩|⟨_,_,_,_,_,_,h⟩|⟨rfl,⟨_,h⟩|⟨_,h⟩|⟨_,_,h⟩|h⟩<;>cases h
  rw[←(hn _ _ q hq).1] at h1 ⊢;exact .map _ _ (hn _ _ q hq).2 h1
 |fn f l vs hl h ih =>
  intro x hx
  rcases inv hx with⟨_,_,_,_,_,_,h⟩|⟨_,_,_,_,_,_,_,_,h⟩|⟨_,_,_,_,_,h⟩|⟨_,_,_,_,_,h⟩|⟨_,_,_,_,h⟩|⟨_,cs,l',rfl,hrl,h⟩|⟨_,_,_,_,h⟩|⟨_,_,_,_,_,_,h⟩|⟨_,_,_,_,_,_,h⟩|⟨rfl,⟨_,h⟩|⟨_,h⟩|⟨_,_,h⟩|h⟩<;>cases h
  refine .fn _ cs vs (by rw[←Aw hrl];exact hl) (fun i z v hz hv=>?_)
  obtain⟨y,hy,hxy⟩:=Cw hrl hz
  exact ih i y v hy hv hxy
 |tup l vs hl h ih =>
  intro x hx
  rcases inv hx with⟨_,_,_,_,_,_,h⟩|⟨_,_,_,_,_,_,_,_,h⟩|⟨_,_,_,_,_,h⟩|⟨_,_,_,_,_,h⟩|⟨_,_,_,_,h⟩|⟨_,_,_,_,_,h⟩|⟨cs,l',rfl,hrl,h⟩|⟨_,_,_,_,_,_,h⟩|⟨_,_,_,_,_,_,h⟩|⟨rfl,⟨_,h⟩|⟨_,h⟩|⟨_,_,h⟩|h⟩<;>cases h
  refine .tup cs vs (by rw[←Aw hrl];exact hl) (fun i z v hz hv=>?_)
  obtain⟨y,hy,hxy⟩:=Cw hrl hz
  exact ih i y v hy hv hxy
 |undef v =>
  intro x hx
  rcases inv hx with⟨_,_,_,_,_,_,h⟩|⟨_,_,_,_,_,_,_,_,h⟩|⟨_,_,_,_,_,h⟩|⟨_,_,_,_,_,h⟩|⟨_,_,_,_,h⟩|⟨_,_,_,_,_,h⟩|⟨_,_,_,_,h⟩|⟨_,_,_,_,_,_,h⟩|⟨_,_,_,_,_,_,h⟩|⟨rfl,_⟩<;>first|exact .undef v|cases h
 |mref k o g u hg h h1 =>
  intro x hx
  rcases inv hx with⟨_,_,_,_,_,_,h⟩|⟨_,_,_,_,_,_,_,_,h⟩|⟨_,_,_,_,_,h⟩|⟨_,_,_,_,_,h⟩|⟨_,_,_,_,h⟩|⟨_,_,_,_,_,h⟩|⟨_,_,_,_,h⟩|⟨_,_,_,q,rfl,hq,h⟩|⟨_,_,_,_,_,_,h⟩|⟨rfl,⟨_,h⟩|⟨_,h⟩|⟨_,_,h⟩|h⟩<;>cases h
  exact .mref _ _ _ _ (hn _ _ q hq).2 (by rw[(hn _ _ q hq).1];assumption) h1
 |ablk sl l off b base vs u hb hne h1 hc hv hu ih =>
  intro x hx
  rcases inv hx with⟨_,_,_,_,_,_,h⟩|⟨_,_,_,_,_,_,_,_,h⟩|⟨_,_,_,_,_,h⟩|⟨_,_,_,_,_,h⟩|⟨_,_,_,_,h⟩|⟨_,_,_,_,_,h⟩|⟨_,_,_,_,h⟩|⟨_,_,_,_,_,_,h⟩|⟨_,cs,_,l',rfl,hrl,h⟩|⟨rfl,⟨_,h⟩|⟨_,h⟩|⟨_,_,h⟩|h⟩<;>cases h
  have hget:∀(j:Nat) (z:AV),cs[j]?=some z->∃y,l[j]?=some y/\z.ren ρ=some y:=fun j z hz=>Cw hrl hz
  cases l with
  |nil=>exact absurd rfl hne
  |cons z0 zs0 =>
   have hlt:b<w.heap.size:=CK (hc 0 z0 (by simp))
   refine .ablk sl cs off b base vs u (fun hh=>hb (hf b hlt hh)) (fun hl0=>by have:=Aw hrl;rw[hl0] at this;simp at this) (fun z hz=>?_) (fun j z hz=>?_) (fun j z hz=>?_) (by rw[←Aw hrl];exact hu)
   ·obtain⟨i,hi⟩:=List.getElem?_of_mem hz
    obtain⟨y,hy,hxy⟩:=hget i z hi
    rw[←MH hxy];exact h1 y (List.mem_of_getElem? hy)
   ·obtain⟨y,hy,hxy⟩:=hget j z hz
    exact hc j y hy
   ·obtain⟨y,hy,hxy⟩:=hget j z hz
    exact ih j y hy hxy
 |bnd f cs vs hl h =>
  intro x hx
  rcases inv hx with⟨_,_,_,_,_,_,h⟩|⟨_,_,_,_,_,_,_,_,h⟩|⟨_,_,_,_,_,h⟩|⟨_,_,_,_,_,h⟩|⟨_,_,_,_,h⟩|⟨_,_,_,_,_,h⟩|⟨_,_,_,_,h⟩|⟨_,_,_,_,_,_,h⟩|⟨_,_,_,_,_,_,h⟩|⟨rfl,⟨_,h⟩|⟨_,h⟩|⟨_,_,h⟩|h⟩<;>cases h
theorem Dn.ren {w:World}{fb fb':Nat->Prop}{β β':Nat->Nat->Value}{cn cn':Nat->Nat}{ρ:Ren}(hf:∀b,b<w.heap.size->fb' b->fb b)
  (hn:∀o g q,ρ.get o g=some q->β' q.1 q.2=β o g/\q.2<cn' q.1) {x y:AW}{v:Value}(h:Dn w fb β cn x v) (hy:x.ren ρ=some y):Dn w fb' β' cn' y v:=by
 cases h with
 |cells xs b cur e hb hl h1 h =>
  simp only[AW.ren,GI] at hy
  split at hy
  ·rename_i l hrl
   simp at hy;subst hy
   refine .cells l b cur e hb (by rw[Aw hrl];exact hl) (fun z hz=>?_) fun i z u hz hu=>?_
   ·obtain⟨x,hx,hxy⟩:=EL hrl hz
    rw[MH hxy];exact h1 x hx
   ·obtain⟨x,hx,hxy⟩:=Bi hrl hz
    exact(h i x u hx hu).ren hf hn hxy
  ·cases hy
 |row ety es nil xs v h =>
  simp[AW.ren] at hy;subst hy
  exact .row _ _ _ _ _ (h.mono (Ah.refl _ _) hf fun _ _ _=>rfl)
 |map tys kvs b es hb hl h =>
  simp[AW.ren] at hy;subst hy
  exact .map tys kvs b es hb hl fun i kv e hk he=>by
   obtain⟨h1,h2,h3,h4⟩:=h i kv e hk he
   exact⟨h1,h2.mono (Ah.refl _ _) hf,h3.mono (Ah.refl _ _) hf,h4⟩
 |mapB tys ks cl b es hb hl hr h =>
  simp[AW.ren] at hy;subst hy
  exact .mapB tys ks cl b es hb hl hr fun i k e hk he=>by
   obtain⟨h1,h2,h3,h4⟩:=h i k e hk he
   exact⟨h1,h2.mono (Ah.refl _ _) hf,h3.mono (Ah.refl _ _) hf,h4⟩
 |mitO=>simp[AW.ren] at hy
 |mitD=>simp[AW.ren] at hy
 |hist els n st l=>simp[AW.ren] at hy
 |rowH=>simp[AW.ren] at hy
 |rowP=>simp[AW.ren] at hy
 |mat e1 e2 nil ix rows v h =>
  simp[AW.ren] at hy;subst hy
  exact .mat _ _ _ _ _ _ (h.mono (Ah.refl _ _) hf fun _ _ _=>rfl)
theorem Dn.unren {w:World}{fb fb':Nat->Prop}{β β':Nat->Nat->Value}{cn cn':Nat->Nat}{ρ:Ren}(hf:∀b,b<w.heap.size->fb' b->fb b)
  (hn:∀o g q,ρ.get o g=some q->β' o g=β q.1 q.2/\g<cn' o) {x y:AW}{v:Value}(h:Dn w fb β cn y v) (hy:x.ren ρ=some y):Dn w fb' β' cn' x v:=by
 cases x with
 |cells xs =>
  simp only[AW.ren,GI] at hy
  split at hy
  ·rename_i l hrl
   simp at hy;subst hy
   cases h with
   |cells _ b cur e hb hl h1 h =>
    refine .cells xs b cur e hb (by rw[←Aw hrl];exact hl) (fun z hz=>?_) fun i z u hz hu=>?_
    ·obtain⟨i,hi⟩:=List.getElem?_of_mem hz
     obtain⟨y,hy,hxy⟩:=Cw hrl hi
     rw[←MH hxy];exact h1 y (List.mem_of_getElem? hy)
    ·obtain⟨y,hy,hxy⟩:=Cw hrl hz
     exact(h i y u hy hu).unren hf hn hxy
  ·cases hy
 |row ety es nil xs =>
  simp[AW.ren] at hy;subst hy
  cases h with
  |row _ _ _ _ _ h=>exact .row _ _ _ _ _ (h.mono (Ah.refl _ _) hf fun _ _ _=>rfl)
 |map tys kvs =>
  simp[AW.ren] at hy;subst hy
  cases h with
  |map _ _ b es hb hl h =>
   exact .map tys kvs b es hb hl fun i kv e hk he=>by
    obtain⟨h1,h2,h3,h4⟩:=h i kv e hk he
    exact⟨h1,h2.mono (Ah.refl _ _) hf,h3.mono (Ah.refl _ _) hf,h4⟩
 |mapB tys ks cl =>
  simp[AW.ren] at hy;subst hy
  cases h with
  |mapB _ _ _ b es hb hl hr h =>
   exact .mapB tys ks cl b es hb hl hr fun i k e hk he=>by
    obtain⟨h1,h2,h3,h4⟩:=h i k e hk he
    exact⟨h1,h2.mono (Ah.refl _ _) hf,h3.mono (Ah.refl _ _) hf,h4⟩
 |mitO=>simp[AW.ren] at hy
 |mitD=>simp[AW.ren] at hy
 |hist els n st=>simp[AW.ren] at hy
 |rowH=>simp[AW.ren] at hy
 |rowP=>simp[AW.ren] at hy
 |mat e1 e2 nil ix rows =>
  simp[AW.ren] at hy;subst hy
  cases h with
  |mat _ _ _ _ _ _ h=>exact .mat _ _ _ _ _ _ (h.mono (Ah.refl _ _) hf fun _ _ _=>rfl)
theorem eo {ρ:Ren}{x y:AW}(h:x.ren ρ=some y):y.isHist=false:=by
 cases x with
 |cells xs =>
  simp only[AW.ren] at h
  split at h
  ·simp at h;subst h;rfl
  ·cases h
 |row ety es nil xs=>simp[AW.ren] at h;subst h;rfl
 |map tys kvs=>simp[AW.ren] at h;subst h;rfl
 |mapB tys ks cl=>simp[AW.ren] at h;subst h;rfl
 |mitO=>simp[AW.ren] at h
 |mitD=>simp[AW.ren] at h
 |hist els n st=>simp[AW.ren] at h
 |rowH=>simp[AW.ren] at h
 |rowP=>simp[AW.ren] at h
 |mat=>simp[AW.ren] at h;subst h;rfl
section
variable {E:CW}{c:D_}{β:Nat->Nat->Value}{s:Bg}{tm:Array Value}{w:World}{K:AV->B3->Prop}
theorem Br.call (h:Br E c β s tm w) {V2:AL}{β2:Nat->Nat->Value}{w':World}(H T:Nat->Prop)
  (hos:w'.os=w.os) (htp:w'.tape=w.tape) (hout:w'.output=w.output) (hsz:w.heap.size<=w'.heap.size) (hblk:∀k,k<w.heap.size->¬H k->w'.heap[k]?=w.heap[k]?)
  (hH:∀b,H b->∃o g x,s.V.ob o=some (g,x)/\C8 (β o g) b) (hHT:∀o g x b,s.V.ob o=some (g,x)->C8 (β o g) b->H b->T o)
  (hcn:∀o,s.V.cn o<=V2.cn o) (hβ:∀o g,g<s.V.cn o->β2 o g=β o g) (hun:∀o,¬T o->V2.ob o=s.V.ob o)
  (hto:∀o g y,T o->V2.ob o=some (g,y)->g<V2.cn o/\Dn w' (c.bar β2 V2) β2 V2.cn y (β2 o g)/\(∀b,C8 (β2 o g) b->b<w'.heap.size/\¬c.fb b/\(w.heap.size<=b\/H b))/\(C_<=o->β2 o g=c.b0 o)/\y.isHist=false)
  (hsep:∀o o' g g' x x' b,T o->T o'->V2.ob o=some (g,x)->V2.ob o'=some (g',x')->C8 (β2 o g) b->C8 (β2 o' g') b->o=o') :
  Br E c β2 ⟨s.sl,V2⟩ tm w':=by
 have hU:∀{o g x},¬T o->V2.ob o=some (g,x)->s.V.ob o=some (g,x)/\β2 o g=β o g:=fun {o g x} ht hx=>by
  rw[hun o ht] at hx
  exact⟨hx,hβ o g (h.objs o g x hx).1⟩
 have hHb:∀b,H b->b<w.heap.size/\(c.w0.heap.size<=b\/c.mine b)/\¬c.fb b:=fun b hb=>by
  obtain⟨o,g,x,h1,h2⟩:=hH b hb
  exact h.home o g x b h1 h2
 have hbar:∀b,b<w.heap.size->c.bar β2 V2 b->c.bar β s.V b:=by
  intro b hlt hh
  rcases hh with hh|⟨o',g',x',h1,h2⟩
  ·exact .inl hh
  ·by_cases ht:T o'
   ·rcases ((hto o' g' x' ht h1).2.2.1 b h2).2.2 with h3|h3
    ·omega
    ·exact .inr (hH b h3)
   ·obtain⟨h3,h4⟩:=hU ht h1
    exact .inr ⟨o',g',x',h3,by rw[←h4];exact h2⟩
 have hst:Ah (c.bar β s.V) w w':=fun b hn hlt=>hblk b hlt fun hb=>hn (.inr (hH b hb))
 refine⟨⟨hos.trans h.keep.os,htp.trans h.keep.tape,hout.trans h.keep.output,Nat.le_trans h.keep.size hsz,fun k hk hm=>?_⟩,h.low,fun g cs hg=>(h.glob g cs hg).mono hst hbar,fun t=>?_,fun o g x hx=>?_,?_,?_,?_,fun o1 g1 els n st h1=>?_⟩
 ·rw[←h.keep.block k hk hm]
  refine hblk k (Nat.lt_of_lt_of_le hk h.keep.size) fun hb=>?_
  rcases (hHb k hb).2.1 with h5|h5
  ·omega
  ·exact hm h5
 ·exact(h.slots t).mono hst hbar hβ hcn
 ·by_cases ht:T o
  ·exact⟨(hto o g x ht hx).1,(hto o g x ht hx).2.1⟩
  ·obtain⟨h3,h4⟩:=hU ht hx
   obtain⟨h1,h2⟩:=h.objs o g x h3
   refine⟨Nat.lt_of_lt_of_le h1 (hcn o),?_⟩
   show Dn w' (c.bar β2 V2) β2 V2.cn x (β2 o g)
   rw[h4]
   exact h2.mono hst hbar hβ hcn fun b hbb hlt=>hblk b hlt fun hb=>ht (hHT o g x b h3 hbb hb)
 ·intro o1 o2 g1 g2 x1 x2 b h1 h2 h3 h4
  by_cases t1:T o1<;>by_cases t2:T o2
  ·exact hsep _ _ _ _ _ _ b t1 t2 h1 h2 h3 h4
  ·obtain⟨k1,k2⟩:=hU t2 h2
   rw[k2] at h4
   rcases ((hto o1 g1 x1 t1 h1).2.2.1 b h3).2.2 with h5|h5
   ·have:=(h.home _ _ _ b k1 h4).1;omega
   ·exact absurd (hHT _ _ _ b k1 h4 h5) t2
  ·obtain⟨k1,k2⟩:=hU t1 h1
   rw[k2] at h3
   rcases ((hto o2 g2 x2 t2 h2).2.2.1 b h4).2.2 with h5|h5
   ·have:=(h.home _ _ _ b k1 h3).1;omega
   ·exact absurd (hHT _ _ _ b k1 h3 h5) t1
  ·obtain⟨k1,k2⟩:=hU t1 h1
   obtain⟨k3,k4⟩:=hU t2 h2
   rw[k2] at h3;rw[k4] at h4
   exact h.sep _ _ _ _ _ _ b k1 k3 h3 h4
 ·intro o1 g1 x1 b h1 h2
  by_cases t1:T o1
  ·obtain⟨h3,h4,h5⟩:=(hto o1 g1 x1 t1 h1).2.2.1 b h2
   refine⟨h3,?_,h4⟩
   rcases h5 with h5|h5
   ·exact .inl (Nat.le_trans h.keep.size h5)
   ·exact(hHb b h5).2.1
  ·obtain⟨k1,k2⟩:=hU t1 h1
   rw[k2] at h2
   obtain⟨h3,h4⟩:=h.home _ _ _ b k1 h2
   exact⟨Nat.lt_of_lt_of_le h3 hsz,h4⟩
 ·intro o1 g1 x1 ho h1
  by_cases t1:T o1
  ·exact(hto o1 g1 x1 t1 h1).2.2.2.1 ho
  ·obtain⟨k1,k2⟩:=hU t1 h1
   rw[k2];exact h.pin _ _ _ ho k1
 ·by_cases t1:T o1
  ·have:=(hto o1 g1 _ t1 h1).2.2.2.2;cases this
  ·obtain⟨k1,k2⟩:=hU t1 h1
   rw[k2];exact h.hist _ _ _ _ _ k1
theorem Ren.get_mem:∀{ρ:Ren}{o g:Nat}{q:Nat×Nat},ρ.get o g=some q->((o,g),q)∈ρ
 |[],_,_,_,h=>by simp[Ren.get] at h
 |(p,q')::l,o,g,q,h=>by
  simp only[Ren.get] at h
  split at h
  ·rename_i hh;obtain⟨rfl,rfl⟩:=hh;simp at h;subst h;simp
  ·exact List.mem_cons_of_mem _ (Ren.get_mem h)
theorem IV:∀{l:List Nat},Dt l=true->l.Nodup
 |[],_=>List.nodup_nil
 |x::l,h=>by
  simp only[Dt,Bool.and_eq_true,Bool.not_eq_true'] at h
  rw[List.nodup_cons]
  exact⟨fun hx=>by have:=h.1;simp[hx] at this,IV h.2⟩
theorem Iq {α:Type}{f:α->Nat}:∀{l:List α},(l.map f).Nodup->∀{x y:α},x∈l->y∈l->f x=f y->x=y
 |[],_,_,_,hx,_,_=>by cases hx
 |a::l,h,x,y,hx,hy,he=>by
  rw[List.map_cons,List.nodup_cons] at h
  rcases List.mem_cons.1 hx with hx'|hx'<;>rcases List.mem_cons.1 hy with hy'|hy'
  ·rw[hx',hy']
  ·exact absurd (by rw[←hx',he];exact List.mem_map_of_mem hy') h.1
  ·exact absurd (by rw[←hy',←he];exact List.mem_map_of_mem hx') h.1
  ·exact Iq h.2 hx' hy' he
theorem LY {V:AL}{F:List Nat}{ρ:Ren}:∀{V0:List (Nat×Nat×AW)},Handed V F ρ V0->∀o g x,(o,g,x)∈V0->∃q y,ρ.get o g=some q/\x.ren ρ=some y/\V.get q.1 q.2=some y/\q.1∈F
 |[],_,_,_,_,h=>by cases h
 |(o',g',x')::l,h,o,g,x,hm=>by
  simp only[Handed] at h
  rcases List.mem_cons.1 hm with he|hm
  ·cases he
   obtain⟨h,_⟩:=h
   split at h
   ·rename_i q y hq hy;exact⟨q,y,hq,hy,h.1,by simpa using h.2⟩
   ·exact h.elim
  ·exact LY h.2 o g x hm
theorem Pg {V:List (Nat×Nat×AW)}{o g:Nat}(h:It V o g=true):∃x,(o,g,x)∈V:=by
 unfold It at h
 rw[List.any_eq_true] at h
 obtain⟨⟨o',g',x⟩,hm,he⟩:=h
 simp at he;obtain⟨rfl,rfl⟩:=he
 exact⟨x,hm⟩
structure iG (cn:Nat->Nat) (dst:Option Nat) (V0 V1:List (Nat×Nat×AW)) (ρ ρ2:Ren):Prop where
 n0:∀o g q o' g' q',ρ.get o g=some q->ρ.get o' g'=some q'->q.1=q'.1->o=o'/\g=g'
 n1:∀o g q,ρ.get o g=some q->g=0/\(∃x,(o,g,x)∈V0)/\(C_<=o->ρ2.get o g=some q)/\(o<C_->ρ2.get o g=none/\∃o' g' q',ρ2.get o' g'=some q'/\q'.1=q.1)
 n2:∀o g q,ρ2.get o g=some q->(∃x,(o,g,x)∈V1)/\(ρ.get o g=none->q.1<C_/\q.2=cn q.1/\((∃t,dst=some t/\q.1∈S0 t)\/∃o0 g0 q0,ρ.get o0 g0=some q0/\q0.1=q.1))
 n3:∀o g q o' g' q',ρ2.get o g=some q->ρ2.get o' g'=some q'->q.1=q'.1->o=o'/\g=g'
 n4:∀p p',p∈V1->p'∈V1->p.1=p'.1->p=p'
 n5:(V1.map (·.1)).Nodup
theorem iG.both {cn:Nat->Nat}{dst:Option Nat}{V0 V1:List (Nat×Nat×AW)}{ρ ρ2:Ren}(N:iG cn dst V0 V1 ρ ρ2) {o g:Nat}{q q':Nat×Nat}(h:ρ.get o g=some q) (h2:ρ2.get o g=some q'):C_<=o/\q'=q:=by
 obtain⟨_,_,h3,h4⟩:=N.n1 o g q h
 rcases Nat.lt_or_ge o C_ with hl|hl
 ·rw[(h4 hl).1] at h2;cases h2
 ·have:=h3 hl;rw[h2] at this;exact⟨hl,by simpa using this⟩
theorem XE {ρ2:Ren}{o:Nat}(h:VM ρ2 o=true):∃o' g' q',ρ2.get o' g'=some q'/\q'.1=o:=by
 simp only[VM,List.any_eq_true] at h
 obtain⟨e,_,he⟩:=h
 split at he
 ·rename_i q hq;exact⟨_,_,q,hq,by simpa using he⟩
 ·cases he
theorem OG {ρ:Ren}{o:Nat}(h:RI ρ o=true):∃o0 g0 q0,ρ.get o0 g0=some q0/\q0.1=o:=by
 simp only[RI,List.any_eq_true,Bool.and_eq_true] at h
 obtain⟨e,_,_,he⟩:=h
 split at he
 ·rename_i q hq;exact⟨_,_,q,hq,by simpa using he⟩
 ·cases he
theorem ZY {ρ:Ren}(h3:Dt (ρ.map fun e=>e.2.1)=true) {o g:Nat}{q:Nat×Nat}{o' g':Nat}{q':Nat×Nat}(hq:ρ.get o g=some q) (hq':ρ.get o' g'=some q') (he:q.1=q'.1):o=o'/\g=g':=by
 have:=Iq (IV h3) (Ren.get_mem hq) (Ren.get_mem hq') he
 simp only[Prod.mk.injEq] at this
 exact this.1
theorem WO {cn:Nat->Nat}{dst:Option Nat}{V0 V1:List (Nat×Nat×AW)}{ρ ρ2:Ren}(h:Gp cn dst V0 V1 ρ ρ2=true):iG cn dst V0 V1 ρ ρ2:=by
 simp only[Gp,Bool.and_eq_true,List.all_eq_true] at h
 obtain⟨⟨⟨⟨h1,h2⟩,h0⟩,h3⟩,h4⟩:=h
 refine⟨fun o g q o' g' q' hq hq' he=>ZY h0 hq hq' he,fun o g q hq=>?_,fun o g q hq=>?_,fun o g q o' g' q' hq hq' he=>ZY h3 hq hq' he,fun p p' hp hp' he=>Iq (IV h4) hp hp' he,IV h4⟩
 ·obtain⟨⟨k1,k2⟩,k3⟩:=h1 _ (Ren.get_mem hq)
  refine⟨by simpa using k1,Pg k2,fun hl=>?_,fun hl=>?_⟩
  ·split at k3
   ·rename_i q' hq'
    simp at k3
    simp only at hq'
    rw[hq'];congr 1;exact Prod.ext k3.2.1 k3.2.2
   ·simp only[Bool.and_eq_true,decide_eq_true_eq] at k3;omega
  ·split at k3
   ·simp only[Bool.and_eq_true,decide_eq_true_eq] at k3;omega
   ·rename_i hq'
    simp only[Bool.and_eq_true] at k3
    exact⟨hq',XE k3.2⟩
 ·obtain⟨k1,k2⟩:=h2 _ (Ren.get_mem hq)
  refine⟨Pg k1,fun hn=>?_⟩
  simp only[hn,Bool.and_eq_true,Bool.or_eq_true,decide_eq_true_eq,beq_iff_eq] at k2
  refine⟨k2.1.1,k2.1.2,?_⟩
  rcases k2.2 with k3|k3
  ·left
   split at k3
   ·rename_i t;exact⟨t,rfl,by simpa using k3⟩
   ·cases k3
  ·exact .inr (OG k3)
theorem XD {ρ ρ2:Ren}:∀{V1:List (Nat×Nat×AW)}{V:AL}{ch:B3},Ki ρ ρ2 V1=some ch->(V1.map (·.1)).Nodup ->
  (∀o g q o' g' q',ρ2.get o g=some q->ρ2.get o' g'=some q'->q.1=q'.1->o=o'/\g=g') ->
  (∀o g x q,(o,g,x)∈V1->ρ2.get o g=some q->(∀q',ρ.get o g=some q'->q.2<V.cn q.1)/\(ρ.get o g=none->q.2=V.cn q.1)) ->
  (∀o g x,(o,g,x)∈V1->∃q y,ρ2.get o g=some q/\x.ren ρ2=some y/\(V.app ch).ob q.1=some (q.2,y)/\q.2<(V.app ch).cn q.1) /\
  (∀o',(∀o g x q,(o,g,x)∈V1->ρ2.get o g=some q->q.1≠o')->(V.app ch).ob o'=V.ob o'/\(V.app ch).cn o'=V.cn o')/\∀o',V.cn o'<=(V.app ch).cn o'
 |[],V,ch,h,_,_,_=>by
  simp[Ki] at h;subst h
  exact⟨fun _ _ _ h=>(by cases h),fun _ _=>⟨rfl,rfl⟩,fun _=>Nat.le_refl _⟩
 |(o,g,x)::l,V,ch,h,hnd,n3,hcn=>by
  simp only[Ki] at h
  split at h
  ·rename_i q y cl hq hy hcl
   simp at h;subst h
   rw[List.map_cons,List.nodup_cons] at hnd
   let hd:B3:=match ρ.get o g with|some _=>.keep q.1 q.2 y|none=>.fresh q.1 y
   have hob:∀o',o'≠q.1->(V.app hd).ob o'=V.ob o'/\(V.app hd).cn o'=V.cn o':=by
    intro o' hne
    show (V.app (match ρ.get o g with|some _=>.keep q.1 q.2 y|none=>.fresh q.1 y)).ob o'=_/\(V.app (match ρ.get o g with|some _=>.keep q.1 q.2 y|none=>.fresh q.1 y)).cn o'=_
    split<;>simp[AL.app,CO,hne]
   have hself:(V.app hd).ob q.1=some (q.2,y)/\q.2<(V.app hd).cn q.1/\V.cn q.1<=(V.app hd).cn q.1:=by
    obtain⟨c1,c2⟩:=hcn o g x q (by simp) hq
    show (V.app (match ρ.get o g with|some _=>.keep q.1 q.2 y|none=>.fresh q.1 y)).ob q.1=_/\q.2<(V.app (match ρ.get o g with|some _=>.keep q.1 q.2 y|none=>.fresh q.1 y)).cn q.1/\_<=(V.app (match ρ.get o g with|some _=>.keep q.1 q.2 y|none=>.fresh q.1 y)).cn q.1
    split
    ·rename_i q' hq';exact⟨by simp[AL.app,CO],c1 q' hq',Nat.le_refl _⟩
    ·rename_i hn;have:=c2 hn;simp[AL.app,CO,this]
   have hne:∀o' g' x' q',(o',g',x')∈l->ρ2.get o' g'=some q'->q'.1≠q.1:=fun o' g' x' q' hm hq' he=>by
    have:=(n3 _ _ _ _ _ _ hq' hq he).1
    subst this
    exact hnd.1 (List.mem_map_of_mem (f:=(·.1)) hm)
   obtain⟨i1,i2,i3⟩:=XD (V:=V.app hd) hcl hnd.2 n3 fun o' g' x' q' hm hq'=>by
    rw[(hob q'.1 (hne o' g' x' q' hm hq')).2]
    exact hcn o' g' x' q' (List.mem_cons_of_mem _ hm) hq'
   have hq1:=i2 q.1 fun o' g' x' q' hm hq'=>hne o' g' x' q' hm hq'
   refine⟨fun o' g' x' hm=>?_,fun o' ho'=>?_,fun o'=>?_⟩
   ·rcases List.mem_cons.1 hm with he|hm
    ·cases he
     refine⟨q,y,hq,hy,?_,?_⟩
     ·show ((V.app hd).app cl).ob q.1=_;rw[hq1.1];exact hself.1
     ·show _<((V.app hd).app cl).cn q.1;rw[hq1.2];exact hself.2.1
    ·exact i1 o' g' x' hm
   ·obtain⟨j1,j2⟩:=i2 o' fun o1 g1 x1 q1 hm hq1=>ho' o1 g1 x1 q1 (List.mem_cons_of_mem _ hm) hq1
    have hne':o'≠q.1:=fun e=>ho' o g x q (by simp) hq e.symm
    exact⟨j1.trans (hob o' hne').1,j2.trans (hob o' hne').2⟩
   ·refine Nat.le_trans ?_ (i3 o')
    by_cases he:o'=q.1
    ·subst he;exact hself.2.2
    ·rw[(hob o' he).2];exact Nat.le_refl _
  ·cases h
theorem UH {ρ:Ren}:∀{ys xs:List AV},Sf ρ ys xs->xs.length=ys.length/\∀(i:Nat) (y:AV),ys[i]?=some y->∃x,xs[i]?=some x/\qH ρ y x
 |[],[],_=>⟨rfl,fun i y h=>by simp at h⟩
 |[],_::_,h=>h.elim
 |_::_,[],h=>h.elim
 |y::ys,x::xs,h=>by
  obtain⟨h1,h2⟩:=UH h.2
  refine⟨by simp[h1],fun i z hz=>?_⟩
  cases i with
  |zero=>simp at hz;subst hz;exact⟨x,by simp,h.1⟩
  |succ i=>simp at hz;obtain⟨w,hw,hm⟩:=h2 i z hz;exact⟨w,by simpa using hw,hm⟩
open Classical in
theorem Vx (h:Br E c β s tm w) {dst:Option Nat}{f:FuncId}{xs:List AV}{us:Array Value}(hus:us.size=xs.length) (hxs:∀(i:Nat) (x:AV) (v:Value),xs[i]?=some x->us[i]?=some v->AM w (c.bar β s.V) β s.V.cn x v)
  {F:List Nat}{V0 V1:List (Nat×Nat×AW)}{cxs:List AV}{r r':AV}{ch:B3}{ρ ρ2:Ren}(hren:Sf ρ cxs xs) (hcall:Ft E f V0 cxs V1 r) (hhand:Handed s.V F ρ V0) (hnm:Gp s.V.cn dst V0 V1 ρ ρ2=true)
  (hr:r.ren ρ2=some r') (hback:Ki ρ ρ2 V1=some ch) (hK:K r' ch) :
  Calls E.P f us w fun e w''=>∃u v ch β',e=.returned u/\K v ch/\Br E c β' ⟨s.sl,s.V.app ch⟩ tm w''/\AM w'' (c.bar β' (s.V.app ch)) β' (s.V.app ch).cn v u:=by
 have hH:=LY hhand
 have N:=WO hnm
 obtain⟨hrlen,hrget⟩:=UH hren
 obtain⟨βc,hβc⟩:∃βc:Nat->Nat->Value,βc=fun o g=>match ρ.get o g with|some q=>β q.1 q.2|none=>undef:=⟨_,rfl⟩
 have hβq:∀o g q,ρ.get o g=some q->βc o g=β q.1 q.2:=fun o g q hq=>by rw[hβc];simp only[hq]
 obtain⟨H,hHd⟩:∃H:Nat->Prop,H=FZ βc V0:=⟨_,rfl⟩
 have hown:∀o g x,(o,g,x)∈V0->∃q y,ρ.get o g=some q/\x.ren ρ=some y/\s.V.ob q.1=some (q.2,y)/\βc o g=β q.1 q.2:=fun o g x hm=>by
  obtain⟨q,y,h1,h2,h3,_⟩:=hH o g x hm
  exact⟨q,y,h1,h2,AL.get_some h3,hβq o g q h1⟩
 have hHo:∀b,H b->∃o g x q y,(o,g,x)∈V0/\ρ.get o g=some q/\s.V.ob q.1=some (q.2,y)/\C8 (β q.1 q.2) b:=fun b hb=>by
  rw[hHd] at hb
  obtain⟨o,g,x,hm,hbb⟩:=hb
  obtain⟨q,y,h1,_,h3,h4⟩:=hown o g x hm
  exact⟨o,g,x,q,y,hm,h1,h3,by rw[←h4];exact hbb⟩
 let fbc:Nat->Prop:=fun b=>c.bar β s.V b/\¬H b
 have hbarc:∀b,(fbc b\/FZ βc V0 b)->c.bar β s.V b:=by
  intro b hb
  rcases hb with hb|hb
  ·exact hb.1
  ·rw[←hHd] at hb
   obtain⟨o,g,x,q,y,_,_,h3,h4⟩:=hHo b hb
   exact .inr ⟨_,_,_,h3,h4⟩
 have hnc:∀o g q,ρ.get o g=some q->βc o g=β q.1 q.2/\g<1:=fun o g q hq=>⟨hβq o g q hq,by have:=(N.n1 o g q hq).1;omega⟩
 have hAt:At w fbc βc (fun _=>1) V0:=by
  refine⟨fun o g x hm=>?_,fun o g x o' g' x' b hm hm' hb hb'=>?_,fun o g x b hm hb=>?_⟩
  ·obtain⟨q,y,h1,h2,h3,h4⟩:=hown o g x hm
   refine⟨(hnc o g q h1).2,?_⟩
   rw[h4]
   exact(h.objs _ _ _ h3).2.unren (fun b _ hb=>hbarc b hb) hnc h2
  ·obtain⟨q,y,h1,h2,h3,h4⟩:=hown o g x hm
   obtain⟨q',y',h1',h2',h3',h4'⟩:=hown o' g' x' hm'
   rw[h4] at hb;rw[h4'] at hb'
   have:=h.sep _ _ _ _ _ _ b h3 h3' hb hb'
   exact N.n0 _ _ _ _ _ _ h1 h1' this
  ·obtain⟨q,y,h1,h2,h3,h4⟩:=hown o g x hm
   have hb2:=hb
   rw[h4] at hb2
   exact⟨(h.home _ _ _ b h3 hb2).1,fun hf=>hf.2 (by rw[hHd];exact⟨o,g,x,hm,hb⟩)⟩
 refine(hcall w fbc βc us (fun b hb=>H1 h hb.1) (fun g cs hg=>(h.glob g cs hg).mono (Ah.refl _ _) fun b _ hb=>hbarc b hb) hAt (by rw[hus];exact hrlen) (fun i x v hx hv=>?_)).mono fun e w' hpost=>?_
 ·obtain⟨y,hy,hxy⟩:=hrget i x hx
  have hrep:=hxs i y v hy hv
  cases x with
  |d z=>exact .d _ _ ((CD hrep hxy).1.mono (Ah.refl _ _) fun b _ hb=>hbarc b hb)
  |_=>exact hrep.unren (fun b _ hb=>hbarc b hb) hnc hxy
 obtain⟨u,β1,cn1,he,e1,e2,e3,e4,e5,hAt1,e6,e7,e8⟩:=hpost
 rw[←hHd] at e5
 obtain⟨a1,a2,a3⟩:=XD (V:=s.V) hback N.n5 N.n3 fun o g x q hm hq=>⟨fun q' hq'=>by
   obtain rfl:=(N.both hq' hq).2
   obtain⟨x0,hm0⟩:=(N.n1 _ _ _ hq').2.1
   obtain⟨q2,y2,h1,_,h3,_⟩:=hown o g x0 hm0
   rw[hq'] at h1;simp at h1;subst h1
   exact(h.objs _ _ _ h3).1,fun hn=>((N.n2 _ _ _ hq).2 hn).2.1⟩
 obtain⟨β2,hβ2d⟩:∃β2:Nat->Nat->Value,β2=fun o' g'=>if hh:∃p:Nat×Nat,ρ2.get p.1 p.2=some (o',g') then β1 hh.choose.1 hh.choose.2 else β o' g':=⟨_,rfl⟩
 have hβ2q:∀o g q,ρ2.get o g=some q->β2 q.1 q.2=β1 o g:=by
  intro o g q hq
  have hex:∃p:Nat×Nat,ρ2.get p.1 p.2=some (q.1,q.2):=⟨(o,g),hq⟩
  rw[hβ2d];simp only[hex,dif_pos]
  have hs:=hex.choose_spec
  obtain⟨k1,k2⟩:=N.n3 _ _ _ _ _ _ hs hq rfl
  rw[k1,k2]
 have hold:∀o g q,ρ.get o g=some q->C_<=o->β1 o g=β q.1 q.2:=fun o g q hq hl=>by
  obtain⟨x0,hm0⟩:=(N.n1 _ _ _ hq).2.1
  rw[(e6 o g x0 hm0 hl).2,hβq o g q hq]
 have hβ2lt:∀o' g',g' < s.V.cn o'->β2 o' g'=β o' g':=by
  intro o' g' hlt
  by_cases hex:∃p:Nat×Nat,ρ2.get p.1 p.2=some (o',g')
  ·obtain⟨p,hp⟩:=hex
   rw[show β2 o' g'=β1 p.1 p.2 from hβ2q _ _ _ hp]
   cases hr:ρ.get p.1 p.2 with
   |some q =>
    obtain⟨hl,rfl⟩:=N.both hr hp
    exact hold _ _ _ hr hl
   |none =>
    have h5:=((N.n2 _ _ _ hp).2 hr).2.1
    simp only at h5;omega
  ·rw[hβ2d];simp only[hex,dif_neg,not_false_eq_true]
 let T:Nat->Prop:=fun o'=>∃o g x q,(o,g,x)∈V1/\ρ2.get o g=some q/\q.1=o'
 have hT0:∀o g x q,(o,g,x)∈V0->ρ.get o g=some q->T q.1:=fun o g x q hm hq=>by
  obtain⟨_,_,k3,k4⟩:=N.n1 _ _ _ hq
  rcases Nat.lt_or_ge o C_ with hl|hl
  ·obtain⟨_,o',g',q',k5,k6⟩:=k4 hl
   obtain⟨x',hx'⟩:=(N.n2 _ _ _ k5).1
   exact⟨o',g',x',q',hx',k5,k6⟩
  ·obtain⟨⟨x',hx'⟩,_⟩:=e6 o g x hm hl
   exact⟨o,g,x',q,hx',k3 hl,rfl⟩
 have hTin:∀{o' g' y'},T o'->(s.V.app ch).ob o'=some (g',y')->∃o g x,(o,g,x)∈V1/\ρ2.get o g=some (o',g')/\x.ren ρ2=some y'/\g' < (s.V.app ch).cn o':=by
  intro o' g' y' ⟨o,g,x,q,hm,hq,he⟩ hob
  obtain⟨q',y,h1,h2,h3,h4⟩:=a1 o g x hm
  rw[hq] at h1;simp at h1;subst h1
  subst he
  rw[hob] at h3;simp at h3
  obtain⟨rfl,rfl⟩:=h3
  exact⟨o,g,x,hm,hq,h2,h4⟩
 have hUn:∀o',¬T o'->(s.V.app ch).ob o'=s.V.ob o':=fun o' ht=>(a2 o' fun o g x q hm hq he=>ht ⟨o,g,x,q,hm,hq,he⟩).1
 have hHT:∀o g x b,s.V.ob o=some (g,x)->C8 (β o g) b->H b->T o:=fun o' g' x' b hob hb hHb=>by
  obtain⟨o,g,x,q,y,hm,hq,h3,h4⟩:=hHo b hHb
  have:=h.sep _ _ _ _ _ _ b h3 hob h4 hb
  subst this
  exact hT0 o g x q hm hq
 have hcfb:∀b,c.fb b->fbc b:=fun b hb=>⟨.inl hb,fun hHb=>by
  obtain⟨o,g,x,q,y,hm,hq,h3,h4⟩:=hHo b hHb
  exact(h.home _ _ _ b h3 h4).2.2 hb⟩
 have hbar2:∀b,c.bar β2 (s.V.app ch) b->fbc b\/FZ β1 V1 b:=by
  intro b hb
  rcases hb with hb|⟨o',g',x',h1,h2⟩
  ·exact .inl (hcfb b hb)
  ·by_cases ht:T o'
   ·obtain⟨o,g,x,hm,hq,_,_⟩:=hTin ht h1
    exact .inr ⟨o,g,x,hm,by rw[←hβ2q _ _ _ hq];exact h2⟩
   ·have hob:=h1
    rw[hUn o' ht] at hob
    have hb':=h2
    rw[hβ2lt o' g' (h.objs _ _ _ hob).1] at hb'
    exact .inl ⟨.inr ⟨o',g',x',hob,hb'⟩,fun hHb=>ht (hHT o' g' x' b hob hb' hHb)⟩
 have hn2:∀o g q,ρ2.get o g=some q->β2 q.1 q.2=β1 o g/\q.2<(s.V.app ch).cn q.1:=fun o g q hq=>by
  obtain⟨x,hm⟩:=(N.n2 _ _ _ hq).1
  obtain⟨q',y,h1,h2,h3,h4⟩:=a1 o g x hm
  rw[hq] at h1;simp at h1;subst h1
  exact⟨hβ2q _ _ _ hq,h4⟩
 refine⟨u,r',ch,β2,he,hK,?_,e8.ren (fun b _ hb=>hbar2 b hb) hn2 hr⟩
 refine Br.call h H T e1 e2 e3 e4 e5 (fun b hb=>?_) hHT a3 hβ2lt hUn (fun o' g' y' ht hob=>?_) (fun o1 o2 g1 g2 x1 x2 b t1 t2 h1 h2 h3 h4=>?_)
 ·obtain⟨o,g,x,q,y,hm,hq,h3,h4⟩:=hHo b hb
  exact⟨_,_,_,h3,h4⟩
 ·obtain⟨o,g,x,hm,hq,hy,hlt⟩:=hTin ht hob
  have hval:β2 o' g'=β1 o g:=hβ2q _ _ _ hq
  refine⟨hlt,?_,fun b hb=>?_,fun hl=>?_,eo hy⟩
  ·rw[hval];exact(hAt1.objs o g x hm).2.ren (fun b _ hb=>hbar2 b hb) hn2 hy
  ·rw[hval] at hb
   obtain⟨k1,k2⟩:=hAt1.home o g x b hm hb
   refine⟨k1,fun hf=>k2 (hcfb b hf),?_⟩
   rw[hHd];exact e7 o g x b hm hb
  ·cases hro:ρ.get o g with
   |some q =>
    obtain⟨hlo,rfl⟩:=N.both hro hq
    obtain⟨x0,hm0⟩:=(N.n1 _ _ _ hro).2.1
    obtain⟨q2,y2,k1,_,k3,_⟩:=hown o g x0 hm0
    rw[hro] at k1;simp at k1;subst k1
    rw[hval,hold _ _ _ hro hlo]
    exact h.pin _ _ _ hl k3
   |none =>
    have k4:=((N.n2 _ _ _ hq).2 hro).1
    simp only at k4;omega
 ·obtain⟨o,g,x,hm,hq,_,_⟩:=hTin t1 h1
  obtain⟨o',g',x',hm',hq',_,_⟩:=hTin t2 h2
  rw[show β2 o1 g1=β1 o g from hβ2q _ _ _ hq] at h3
  rw[show β2 o2 g2=β1 o' g' from hβ2q _ _ _ hq'] at h4
  obtain⟨rfl,rfl⟩:=hAt1.sep _ _ _ _ _ _ b hm hm' h3 h4
  rw[hq] at hq';simp at hq';exact hq'.1
end
end Go.Pw
end
section
namespace Go.Pw
open Go.RowKit
def Hd.val (sl:Nat->AV):Hd->AV
 |.t n=>sl n
 |.k v=>v
section
variable {E:CW}{c:D_}{β:Nat->Nat->Value}{s:Bg}{tm:Array Value}{w:World}{K:AV->B3->Prop}
theorem JY {a:Act}(h:Br E c β s a.tmps w) {x:Operand}{y:Hd}(hd:Oi E x=some y):AM w (c.bar β s.V) β s.V.cn (y.val s.sl) (a.eval x):=by
 unfold Oi at hd
 split at hd
 ·simp at hd;subst hd;exact h.slots _
 ·rename_i v
  cases hv:Oh v with
  |none=>simp[hv] at hd
  |some d=>simp[hv] at hd;subst hd;exact .d _ _ (Hy hv)
 ·rename_i g
  cases hv:E.G g with
  |none=>simp[hv] at hd
  |some cs=>simp[hv] at hd;subst hd;exact .d _ _ (h.glob g cs hv)
 ·simp at hd;subst hd
  exact .fn _ [] #[] (by simp) (fun i c v hi=>by simp at hi)
theorem P6 {a:Act}(h:Br E c β s a.tmps w) {xs:List Operand}{ys:List Hd}(hd:Qa E xs=some ys):DL (AM w (c.bar β s.V) β s.V.cn) (ys.map (Hd.val s.sl)) (xs.map a.eval):=by
 refine⟨by simp[Aw hd],fun i x u hx hu=>?_⟩
 simp only[List.getElem?_map,Option.map_eq_some_iff] at hx hu
 obtain⟨y,hy,rfl⟩:=hx
 obtain⟨o,ho,rfl⟩:=hu
 obtain⟨y',h1,h2⟩:=Cw hd ho
 rw[hy] at h1;simp at h1;subst h1
 exact JY h h2
def qQ (E:CW) (c:D_) (s:Bg) (tm:Array Value) (K:AV->B3->Prop) (f:FuncId) (args:Array Value) (w:World):Prop :=
 Calls E.P f args w fun e w''=>∃u v ch β',e=.returned u/\K v ch/\Br E c β' ⟨s.sl,s.V.app ch⟩ tm w''/\AM w'' (c.bar β' (s.V.app ch)) β' (s.V.app ch).cn v u
theorem UR {fb β' cn} {r:D}{v:Value}(h:Az w fb r v):AM w fb β' cn (up r) v:=by
 unfold up
 split
 ·rename_i xs
  cases h with
  |tup _ vs hl h =>
   refine .tup _ _ (by simpa using hl) fun i x u hx hu=>?_
   simp only[List.getElem?_map,Option.map_eq_some_iff] at hx
   obtain⟨y,hy,rfl⟩:=hx
   exact .d _ _ (h i y u hy hu)
 ·exact .d _ _ h
theorem CM.of_prim {w:World}{fb fb':Nat->Prop}{ety es:Nat}{nl:Bool}{l:List D}{v:Value}(hp:KI l=true) (h:CM w fb ety es nl l v):CM w fb' ety es nl l v:=by
 rcases h with h|⟨h1,b,off,cap,cur,h2,h3,h4,h5,h6,h7,h8,h10,h9⟩
 ·exact .inl h
 ·refine .inr ⟨h1,b,off,cap,cur,h2,h3,h4,h5,h6,h7,h8,h10,fun i x j c hi hj=>?_⟩
  obtain⟨u,hu,hd⟩:=h9 i x j c hi hj
  refine⟨u,hu,hd.of_prim ?_⟩
  unfold KI at hp
  exact RQ (RQ (p:=fun x:D=>x.cells.all D.prim) hp hi) hj
theorem Rn (h:Br E c β s tm w) {dst:Option Nat}{f:FuncId}{xs:List AV}{us:Array Value}(hxs:DL (AM w (c.bar β s.V) β s.V.cn) xs us.toList) (he:Dk E dst s.V f xs K):qQ E c s tm K f us w:=by
 rcases he with⟨ds,r,hd,hret,hK⟩|⟨ds,r,hd,hret,hfl,hK⟩|⟨ds,t,ety,es,P,x,rfl,htl,hd,hret,hx,hK⟩|⟨V0,cxs,V1,r,r',ch,ρ,ρ2,hren,hcall,hhand,hnm,hr,hback,hK⟩|⟨o,g,ety,es,nl,l,ds,r,hget,hlim,hcf,hd,hret,hK⟩
 ·refine(hret w (c.bar β s.V) us (fun b hb=>H1 h hb) h.glob (by have:=hxs.1;rw[Aw hd,←this];simp) fun i d v hi hv=>?_).mono fun e w' ⟨v,he,hb,hr⟩=>⟨v,_,.none,β,he,hK,h.grow hb,UR hr⟩
  obtain⟨x,hx,hxd⟩:=Bi hd hi
  exact(CD (hxs.2 i x v hx (by simpa using hv)) hxd).1
 ·refine(hret w c.fb us (fun b hb=>H1 h (.inl hb)) (fun g cs hg=>(h.glob g cs hg).mono (Ah.refl _ _) fun b _ hb=>.inl hb) (by have:=hxs.1;rw[Aw hd,←this];simp) fun i d v hi hv=>?_).mono fun e w' ⟨v,he,hb,hr⟩=>⟨v,_,.none,β,he,hK,h.grow hb,UR (hr.of_flat hfl)⟩
  obtain⟨x,hx,hxd⟩:=Bi hd hi
  exact Ta h (hxs.2 i x v hx (by simpa using hv)) hxd
 ·have hc:Calls E.P f us w fun e w'=>∃v,e=.returned v/\Below w.heap.size w w'/\(∀b,C8 v b->w.heap.size<=b)/\∃nl l,P nl l/\CM w' (fun b=>c.bar β s.V b\/C8 v b) ety es nl l v:=by
   rcases hd with hd|⟨hd,hpl⟩
   ·refine(hret w (c.bar β s.V) us (fun b hb=>H1 h hb) h.glob (by have:=hxs.1;rw[Aw hd,←this];simp) fun i d v hi hv=>?_).mono fun e w' hh=>hh
    obtain⟨x,hx,hxd⟩:=Bi hd hi
    exact(CD (hxs.2 i x v hx (by simpa using hv)) hxd).1
   ·refine(hret w c.fb us (fun b hb=>H1 h (.inl hb)) (fun g cs hg=>(h.glob g cs hg).mono (Ah.refl _ _) fun b _ hb=>.inl hb) (by have:=hxs.1;rw[Aw hd,←this];simp) fun i d v hi hv=>?_).mono fun e w' ⟨v,he,hb,hbl,nl,l,hp,hr⟩=>⟨v,he,hb,hbl,nl,l,hp,hr.of_prim (hpl nl l hp)⟩
    obtain⟨x,hx,hxd⟩:=Bi hd hi
    exact Ta h (hxs.2 i x v hx (by simpa using hv)) hxd
  refine hc.mono fun e w' ⟨v,he,hb,hbl,nl,l,hp,hr⟩=>?_
  have hlt:∀b,C8 v b->b<w'.heap.size:=by
   intro b hbb
   rcases hr with⟨_,_,rfl⟩|⟨_,b',off,cap,cur,rfl,h3,_⟩
   ·simp[C8,BX] at hbb
   ·simp[C8,BX] at hbb;subst hbb;exact(Array.getElem?_eq_some_iff.1 h3).1
  have h1:v.oneCell'=true:=by
   rcases hr with⟨_,_,rfl⟩|⟨_,b',off,cap,cur,rfl,h3,_⟩<;>rfl
  refine⟨v,_,_,ER β t (s.V.cn t) v,he,hK,h.fresh htl (.of_below _ hb) (fun b hbb=>⟨hlt b hbb,.inl (hbl b hbb)⟩) (fun β' fb' hβ' hfe hf=>?_) (hnh:=by rcases hx with rfl|⟨_,_,rfl,_⟩<;>rfl),AM.own_new h1 (FQ _ _ _)⟩
  have hrr:CM w' fb' ety es nl l v:=hr.mono (Ah.refl _ _) (fun b hb' hh=>?_) fun _ _ _=>rfl
  ·rcases hx with rfl|⟨nl',l',rfl,hx⟩
   ·exact .rowP _ _ _ _ _ _ hp hrr
   ·obtain⟨rfl,rfl⟩:=hx nl l hp;exact .row _ _ _ _ _ hrr
  subst hβ' hfe
  rcases hh with hh|⟨o',g',x',h2,h3⟩
  ·exact .inl (.inl hh)
  ·by_cases ho:o'=t
   ·subst ho
    simp[AL.app,CO] at h2
    obtain⟨rfl,_⟩:=h2
    rw[Bj] at h3;exact .inr h3
   ·simp[AL.app,CO,ho] at h2
    have:=(h.objs o' g' x' h2).1
    rw[Eo o' g' this] at h3
    exact .inl (.inr ⟨o',g',x',h2,h3⟩)
 ·exact Vx h (by simpa using hxs.1) (fun i x v hx hv=>hxs.2 i x v hx (by simpa using hv)) hren hcall hhand hnm hr hback hK
 ·have hob:=AL.get_some hget
  have h':Br E c (ER β o (s.V.cn o) (.slice none 0 0)) ⟨s.sl,s.V.app (.fresh o (.row ety es true []))⟩ tm w:=h.fresh (o:=o) (x:=.row ety es true []) (vo:=.slice none 0 0) hlim ⟨rfl,rfl,rfl,Nat.le_refl _,fun _ _ _=>rfl⟩
   (fun b hb=>by simp[C8,BX] at hb) (fun β' fb' _ _ _=>.row _ _ _ _ _ (.inl ⟨rfl,rfl,rfl⟩))
  have hbar:∀b,c.bar (ER β o (s.V.cn o) (.slice none 0 0)) (s.V.app (.fresh o (.row ety es true []))) b->c.bar β s.V b/\¬C8 (β o g) b:=fun b hb=>by
   rcases hb with hb|⟨o',g',x',h2,h3⟩
   ·exact⟨.inl hb,fun hB=>(h.home o g _ b hob hB).2.2 hb⟩
   ·by_cases ho:o'=o
    ·subst ho
     simp[AL.app,CO] at h2
     obtain⟨rfl,_⟩:=h2
     rw[Bj] at h3
     simp[C8,BX] at h3
    ·simp[AL.app,CO,ho] at h2
     have hlt:=(h.objs o' g' x' h2).1
     rw[Eo o' g' hlt] at h3
     exact⟨.inr ⟨o',g',x',h2,h3⟩,fun hB=>ho (h.sep o' o g' g x' _ b h2 hob h3 hB)⟩
  refine(hret w _ us (fun b hb=>H1 h' hb) h'.glob (by have:=hxs.1;rw[Aw hd,←this];simp) fun i d v hi hv=>?_).mono fun e w' ⟨v,he,hb,hr⟩=>⟨v,_,_,_,he,hK,h'.grow hb,UR hr⟩
  obtain⟨x,hx,hxd⟩:=Bi hd hi
  have hrep:=hxs.2 i x v hx (by simpa using hv)
  unfold qG at hxd
  split at hxd
  ·split at hxd
   ·rename_i heq
    obtain⟨rfl,rfl⟩:=heq
    cases hxd
    obtain⟨_,ho⟩:=h.objs _ _ _ hob
    cases hrep with
    |own _ _ hgg hone =>
     generalize hv2:β _ _=v at ho hbar
     cases ho with
     |row _ _ _ _ _ ho =>
      exact C4 (ho.mono (Ah.refl _ _) (fun b _ hb=>(hbar b hb).1) fun _ _ _=>rfl) fun b hb hb'=>(hbar b hb').2 hb
   ·cases hxd
  ·exact(CD hrep hxd).1.mono (Ah.refl _ _) fun b _ hb=>(hbar b hb).1
theorem HZ {f:FuncId}(hf:Bk E.P f=true) (args:Array Value):(callFunc f args).run E.P w=.ok (.enter f args) w:=by
 unfold Bk at hf
 split at hf
 ·rename_i fn hfn
  simp only[Bool.and_eq_true,bne_iff_ne,ne_eq] at hf
  have h2:¬fn.body=none:=by intro hb;simp[hb] at hf
  simp[callFunc,hfn,hf.2,h2]
 ·cases hf
theorem Wc {f:FuncId}{args:Array Value}{r:Result Next}(hr:r=.ok (.enter f args) w) (h:qQ E c s tm K f args w):XN E c s tm K r:=.inr ⟨f,args,w,hr,h⟩
theorem CS {m:Sem Value}(h:GF E c s tm K (m.run E.P w)):XN E c s tm K ((do let v ←m;pure (Next.value v):Sem Next).run E.P w):=by
 obtain⟨u,w',v,ch,β',hr,hK,h1,h2⟩:=h
 exact .inl ⟨u,w',v,ch,β',.inl (by simp[hr]),hK,h1,h2⟩
theorem SC {m:Sem Unit}(h:iH E c s tm K (m.run E.P w)):XN E c s tm K ((do m;pure Next.skip:Sem Next).run E.P w):=by
 obtain⟨w',ch,β',hr,hK,h1⟩:=h
 exact .inl ⟨undef,w',.undef,ch,β',.inr ⟨by simp[hr],rfl⟩,hK,h1,.undef _⟩
theorem Dm (h:Br E c β s tm w) {m:Sem Value}(hh:∃r,m.run E.P w=.ok r w/\∃v,K v .none/\AM w (c.bar β s.V) β s.V.cn v r):XN E c s tm K ((do let v ←m;pure (Next.value v):Sem Next).run E.P w):=by
 obtain⟨r,hr,v,hK,hv⟩:=hh
 exact DJ h hK (by simp[hr]) hv
theorem HC {us:List Value}{x:AV}{R:AV->Value->Prop}(h:DL R [x] us):∃u,us=[u]/\R x u:=by
 obtain⟨u,us',rfl,h1,h2⟩:=h.cons'
 have:=h2.nil;subst this;exact⟨u,rfl,h1⟩
theorem Ln {us:List Value}{x y:AV}{R:AV->Value->Prop}(h:DL R [x,y] us):∃u v,us=[u,v]/\R x u/\R y v:=by
 obtain⟨u,us',rfl,h1,h2⟩:=h.cons'
 obtain⟨v,rfl,h3⟩:=HC h2;exact⟨u,v,rfl,h1,h3⟩
theorem gf {us:List Value}{x y z:AV}{R:AV->Value->Prop}(h:DL R [x,y,z] us):∃u v t,us=[u,v,t]/\R x u/\R y v/\R z t:=by
 obtain⟨u,us',rfl,h1,h2⟩:=h.cons'
 obtain⟨v,t,rfl,h3,h4⟩:=Ln h2;exact⟨u,v,t,rfl,h1,h3,h4⟩
theorem eM (h:Br E c β s tm w) {dst:Option Nat}{u:UnOp}{xs:List AV}{x:Value}(hx:DL (AM w (c.bar β s.V) β s.V.cn) xs [x]) (he:ev E dst s.V (.un u) xs K):∃r,(Op.unary u x).run E.P w=.ok r w/\∃v,K v .none/\AM w (c.bar β s.V) β s.V.cn v r:=by
 unfold ev at he
 simp only at he
 split at he
 ·obtain⟨u,hu,h1⟩:=HC hx
  simp at hu;subst hu
  rw[Hj h1]
  exact⟨_,by simp[Op.unary],_,he,Ie⟩
 ·obtain⟨u,hu,h1⟩:=HC hx
  simp at hu;subst hu
  obtain⟨rfl,_⟩:=Bl h1
  exact⟨_,by simp[Op.unary,Op.intArith],_,he,EJ (Jl _ _)⟩
 ·obtain⟨u,hu,h1⟩:=HC hx
  simp at hu;subst hu
  obtain⟨rfl,_⟩:=Bl h1
  exact⟨_,by simp[Op.unary,Op.intBits,A0],_,he,EJ (Jl _ _)⟩
 ·exact he.elim
theorem Xo (h:Br E c β s tm w) {dst:Option Nat}{src ty:TypeId}{k k':IntKind}{x:AV}{u:Value}(hs:E.P.underlying src=some (.int k')) (ht:E.P.underlying ty=some (.int k)) (hx:AM w (c.bar β s.V) β s.V.cn x u) (he:ev E dst s.V (.conv k) [x] K) :
  ∃r,(convert src ty u).run E.P w=.ok r w/\∃v,K v .none/\AM w (c.bar β s.V) β s.V.cn v r:=by
 unfold ev at he
 simp only at he
 split at he
 ·rename_i heq
  simp at heq;subst heq
  obtain⟨rfl,_⟩:=Bl hx
  exact⟨_,by simp[convert,run_underlying hs,run_underlying ht,Conv.intToInt],_,he,EJ (Jl _ _)⟩
 ·exact he.elim
theorem Sx {dst:Option Nat}{i:Nat}{x:AV}{u:Value}(hx:AM w (c.bar β s.V) β s.V.cn x u) (he:ev E dst s.V (.extract i) [x] K) :
  ∃r,(Instr.extract u i).run E.P w=.ok r w/\∃v,K v .none/\AM w (c.bar β s.V) β s.V.cn v r:=by
 unfold ev at he
 simp only at he
 split at he
 ·rename_i heq
  simp at heq;subst heq
  split at he
  ·rename_i v hv
   cases hx with
   |tup _ vs hl hh =>
    have hlt:i<vs.size:=by rw[hl];exact(List.getElem?_eq_some_iff.1 hv).1
    have hg:vs[i]?=some vs[i]:=Array.getElem?_eq_getElem hlt
    exact⟨vs[i],by simp[Instr.extract,hg],v,he,hh i v _ hv hg⟩
  ·exact he.elim
 ·exact he.elim
theorem TX (h:Br E c β s tm w) {dst:Option Nat}{t ty:TypeId}{x:AV}{u:Value}{m:Bool}(ht:if m then (∃k e,E.P.underlying t=some (.map k e)) else ∃e,E.P.underlying t=some (.slice e)) (hx:AM w (c.bar β s.V) β s.V.cn x u) (he:ev E dst s.V (.len m) [x] K) :
  ∃r,(Builtin.len_ #[t] ty #[u]).run E.P w=.ok r w/\∃v,K v .none/\AM w (c.bar β s.V) β s.V.cn v r:=by
 have small:∀{n:Nat},n<=maxLen->K4 .i64 (n:Int):=fun {n} hn=>by unfold maxLen at hn;simp[K4,IntKind.min,IntKind.max,IntKind.signed,IntKind.bits];omega
 have listCase:∀{nl:Bool}{l:List D},x.asList s.V=some (nl,l)->K (.d (.int .i64 l.length)) .none->(∃e,E.P.underlying t=some (.slice e))->∃r,(Builtin.len_ #[t] ty #[u]).run E.P w=.ok r w/\∃v,K v .none/\AM w (c.bar β s.V) β s.V.cn v r:=by
  intro nl l hl hK ⟨e,hte⟩
  have hd:=Se h hx hl
  cases hd with
  |nil=>exact⟨.int .i64 0,by simp[Builtin.len_,run_underlying hte,goInt],_,hK,by simpa using EJ (small (n:=0) (by simp))⟩
  |empty a cap hm=>exact⟨.int .i64 0,by simp[Builtin.len_,run_underlying hte,goInt],_,hK,by simpa using EJ (small (n:=0) (by simp))⟩
  |list _ es b off cap vs hcap hm=>exact⟨.int .i64 l.length,by simp[Builtin.len_,run_underlying hte,goInt],_,hK,EJ (small (by omega))⟩
 unfold ev at he
 simp only at he
 cases m with
 |true =>
  obtain⟨k,e,ht⟩:=ht
  simp only[if_true] at he
  split at he
  ·rename_i o g
   split at he
   ·rename_i kvs hg
    obtain⟨hb,hK⟩:=he
    cases hx with
    |map _ _ hgg hone =>
     obtain⟨_,ho⟩:=h.objs _ _ _ (AL.get_some hg)
     generalize hv:β o g=v at ho ⊢
     cases ho with
     |map tys kvs b es hb' hl hh =>
      refine⟨.int .i64 kvs.length,by simp[Builtin.len_,run_underlying ht,Bz hb',goInt,hl],_,hK,?_⟩
      exact EJ (small (by unfold C1 at hb;unfold maxLen;omega))
   ·rename_i es0 cl hg
    obtain⟨hb,hK⟩:=he
    cases hx with
    |map _ _ hgg hone =>
     obtain⟨_,ho⟩:=h.objs _ _ _ (AL.get_some hg)
     generalize hv:β o g=v at ho ⊢
     cases ho with
     |mapB tys ks cl b es hb' hl hr hh =>
      refine⟨.int .i64 es0.length,by simp[Builtin.len_,run_underlying ht,Bz hb',goInt,hl],_,hK,?_⟩
      exact EJ (small (by unfold C1 at hb;unfold maxLen;omega))
   ·exact he.elim
  ·rename_i kvs
   obtain⟨hb,hK⟩:=he
   cases hx with|d _ _ hx =>
   cases hx with
   |map tys kvs b es cl hbb hb' hl hr htk hkk hvv =>
    refine⟨.int .i64 kvs.length,by simp[Builtin.len_,run_underlying ht,Bz hb',goInt,hl],_,hK,?_⟩
    exact EJ (small (by unfold C1 at hb;unfold maxLen;omega))
  ·exact he.elim
 |false =>
  simp only[Bool.false_eq_true,if_false] at he ht
  split at he
  ·rename_i n hl
   unfold AV.lenL at hl
   split at hl
   ·rename_i off n' cap o g
    simp only[Option.some.injEq] at hl;subst hl
    obtain⟨e,hte⟩:=ht
    cases hx with|mref _ _ _ u hlt hm hu1 =>
    obtain⟨b,hb,hu,hn⟩:=Ze hm
    subst hu
    exact⟨.int .i64 n',by simp[Builtin.len_,run_underlying hte,goInt],_,he,EJ (small (by unfold maxLen;omega))⟩
   ·rename_i o g
    split at hl
    ·rename_i e1 e2 nl ix rows hg
     simp only[Option.some.injEq] at hl;subst hl
     obtain⟨e,hte⟩:=ht
     cases hx with|mref _ _ _ u hlt hm hu1 =>
     have ho:=(h.objs _ _ _ (AL.get_some hg)).2
     generalize β o g=v at hm ho
     cases ho with|mat _ _ _ _ _ _ ho =>
     obtain⟨v0,vs,hvv,hlen,h0,_⟩:=ho
     subst hvv
     simp only[EH,B_,List.getElem?_cons_zero,Option.some.injEq] at hm
     subst hm
     rcases h0 with⟨_,h2,h3⟩|⟨_,b,off,cap,cur,h2,h3,h4,h5,_⟩
     ·subst h2 h3;exact⟨.int .i64 0,by simp[Builtin.len_,run_underlying hte,goInt],_,he,by simpa using EJ (small (n:=0) (by simp))⟩
     ·subst h2;exact⟨.int .i64 ix.length,by simp[Builtin.len_,run_underlying hte,goInt],_,he,EJ (small (by omega))⟩
    ·cases hl
   ·split at hl
    ·rename_i nl l hal
     simp only[Option.some.injEq] at hl;subst hl
     exact listCase hal he ht
    ·cases hl
  ·exact he.elim
theorem pZ {k:IntKind}(isMax:Bool) {a b:Int}(ha:K4 k a) (hb:K4 k b):K4 k (if isMax then jz a b else jy a b):=by
 cases isMax<;>simp only[if_true,if_false,Bool.false_eq_true,jz,jy]<;>split<;>assumption
theorem Yh {isMax:Bool}{k:IntKind}:∀{rest:List AV}{us:List Value}{a r:Int},K4 k a->DL (AM w (c.bar β s.V) β s.V.cn) rest us->GL isMax k a rest=some r ->
  (us.foldlM (if isMax then Builtin.max2 else Builtin.min2) (.int k a)).run E.P w=.ok (.int k r) w/\K4 k r:=by
 intro rest
 induction rest with
 |nil =>
  intro us a r ha hu hf
  have:=hu.nil;subst this
  simp[GL] at hf;subst hf
  exact⟨by simp,ha⟩
 |cons x rest ih =>
  intro us a r ha hu hf
  obtain⟨u,us',rfl,h1,h2⟩:=hu.cons'
  unfold GL at hf
  split at hf
  ·rename_i heq;cases heq
  ·rename_i heq
   simp at heq;obtain⟨rfl,rfl⟩:=heq
   split at hf
   ·rename_i hk;subst hk
    obtain⟨rfl,hb⟩:=Bl h1
    obtain⟨h3,h4⟩:=ih (pZ isMax ha hb) h2 hf
    refine⟨?_,h4⟩
    rw[List.foldlM_cons]
    cases isMax<;>simp only[if_true,if_false,Bool.false_eq_true] at h3 ⊢
    ·simp only[Builtin.min2,Sem.run_bind,Sem.run_pure,Result.andThen_ok];exact h3
    ·simp only[Builtin.max2,Sem.run_bind,Sem.run_pure,Result.andThen_ok];exact h3
   ·cases hf
  ·cases hf
theorem QL {f:FuncId}{cap args:Array Value}:(Deferred.ofValue (.func (.func f) #[] cap) args).run E.P w=.ok { target:=.fn (.func f) cap,args:=args } w:=by
 simp[Deferred.ofValue]
theorem K8 (h:Br E c β s tm w) {dst:Option Nat}{f:FuncId}{xs:List AV}{us cap:Array Value}{cs:List AV}(hf:Bk E.P f=true) (hxs:DL (AM w (c.bar β s.V) β s.V.cn) xs us.toList)
  (hcs:DL (AM w (c.bar β s.V) β s.V.cn) cs cap.toList) (he:Dk E dst s.V f (xs++cs) K) :
  XN E c s tm K ((do let d ←Deferred.ofValue (.func (.func f) #[] cap) us;invoke d.target d.args:Sem Next).run E.P w):=by
 refine Wc (args:=us++cap) (by simp[QL,invoke,HZ hf]) (Rn h (dst:=dst) ⟨by have h1:=hxs.1;have h2:=hcs.1;simp at *;omega,fun i x u hx hu=>?_⟩ he)
 have h1:=hxs.1
 rw[Array.toList_append] at hu
 by_cases hlt:i<xs.length
 ·rw[List.getElem?_append_left hlt] at hx
  rw[List.getElem?_append_left (by omega)] at hu
  exact hxs.2 i x u hx hu
 ·rw[List.getElem?_append_right (by omega)] at hx
  rw[List.getElem?_append_right (by omega),h1] at hu
  exact hcs.2 _ x u hx hu
theorem Un {f:FuncId}{pre args:Array Value}:(Deferred.ofValue (.func (.func f) pre #[]) args).run E.P w=.ok { target:=.fn (.func f) #[],args:=pre++args } w:=by
 simp[Deferred.ofValue]
theorem QI (h:Br E c β s tm w) {dst:Option Nat}{f:FuncId}{xs:List AV}{us pre:Array Value}{cs:List AV}(hf:Bk E.P f=true) (hxs:DL (AM w (c.bar β s.V) β s.V.cn) xs us.toList)
  (hcs:DL (AM w (c.bar β s.V) β s.V.cn) cs pre.toList) (he:Dk E dst s.V f (cs++xs) K) :
  XN E c s tm K ((do let d ←Deferred.ofValue (.func (.func f) pre #[]) us;invoke d.target d.args:Sem Next).run E.P w):=by
 refine Wc (args:=pre++us) (by simp[Un,invoke,HZ hf]) (Rn h (dst:=dst) ⟨by have h1:=hxs.1;have h2:=hcs.1;simp at *;omega,fun i x u hx hu=>?_⟩ he)
 have h1:=hcs.1
 rw[Array.toList_append] at hu
 by_cases hlt:i<cs.length
 ·rw[List.getElem?_append_left hlt] at hx
  rw[List.getElem?_append_left (by omega)] at hu
  exact hcs.2 i x u hx hu
 ·rw[List.getElem?_append_right (by omega)] at hx
  rw[List.getElem?_append_right (by omega),h1] at hu
  exact hxs.2 _ x u hx hu
theorem Vw (h:Br E c β s tm w) {dst:Option Nat}{x:AV}{xs:List AV}{u:Value}{us:Array Value}(hx:AM w (c.bar β s.V) β s.V.cn x u) (hxs:DL (AM w (c.bar β s.V) β s.V.cn) xs us.toList) (he:ev E dst s.V .callv (x::xs) K) :
  XN E c s tm K ((do let d ←Deferred.ofValue u us;invoke d.target d.args:Sem Next).run E.P w):=by
 unfold ev at he
 simp only at he
 split at he
 ·rename_i f cs args heq
  simp at heq;obtain⟨rfl,rfl⟩:=heq
  cases hx with
  |fn _ _ vs hl hh=>exact K8 h he.1 hxs ⟨by simpa using hl,fun i x u hx hu=>hh i x u hx (by simpa using hu)⟩ he.2
 ·rename_i f cs args heq
  simp at heq;obtain⟨rfl,rfl⟩:=heq
  cases hx with
  |d _ _ hx=>cases hx with
   |fn _ _ vs hl hh =>
    refine K8 h he.1 hxs ⟨by simpa using hl,fun i x u hx hu=>?_⟩ he.2
    simp only[List.getElem?_map,Option.map_eq_some_iff] at hx
    obtain⟨y,hy,rfl⟩:=hx
    exact .d _ _ (hh i y u hy (by simpa using hu))
 ·rename_i f cs args heq
  simp at heq;obtain⟨rfl,rfl⟩:=heq
  cases hx with
  |bnd _ _ vs hl hh=>exact QI h he.1 hxs ⟨by simpa using hl,fun i x u hx hu=>hh i x u hx (by simpa using hu)⟩ he.2
 ·rename_i f cs args heq
  simp at heq;obtain⟨rfl,rfl⟩:=heq
  cases hx with
  |d _ _ hx=>cases hx with
   |bnd _ _ vs hl hh =>
    refine QI h he.1 hxs ⟨by simpa using hl,fun i x u hx hu=>?_⟩ he.2
    rw[List.getElem?_map] at hx
    simp only[Option.map_eq_some_iff] at hx
    obtain⟨x0,h0,rfl⟩:=hx
    exact .d _ _ (hh i x0 u h0 (by simpa using hu))
 ·exact he.elim
theorem TY (h:Br E c β s tm w) {dst:Option Nat}{op:BinOp}{t:TypeId}{tys:HS}{ox oy:Operand}{x y:AV}{u v:Value}(ht:Ch E.P t=some tys) (hag:tys.1=true) (hop:op=.eql\/op=.neq)
  (hx:AM w (c.bar β s.V) β s.V.cn x u) (hy:AM w (c.bar β s.V) β s.V.cn y v) (he:ev E dst s.V (.eqv (op == .neq) tys) [x,y] K) :
  ∃r,(do eqGuard op t ox oy u v;binOp op t u v:Sem Value).run E.P w=.ok r w/\∃v,K v .none/\AM w (c.bar β s.V) β s.V.cn v r:=by
 unfold ev at he
 simp only at he
 split at he
 ·rename_i a b ha hb
  obtain⟨h1,h2,hK⟩:=he
  have hu:=(CD hx ha).1
  have hv:=(CD hy hb).1
  obtain⟨us,vs,rfl,rfl,hg⟩:=S9 ht h1 h2 hu hv hag op ox oy
  have heq:=KG ht h1 h2 hu hv
  have e1:(BinOp.eql == BinOp.neq)=false:=rfl
  have e2:(BinOp.neq == BinOp.neq)=true:=rfl
  refine⟨.bool (if op == .neq then !Dl a b else Dl a b),?_,_,hK,Ie⟩
  rcases hop with rfl|rfl
  ·simp[hg,binOp,heq,e1]
  ·simp[hg,binOp,heq,e2]
 ·exact he.elim
theorem Vu (h:Br E c β s tm w) {dst:Option Nat}{op:BinOp}{t e:TypeId}{ox oy:Operand}{x:AV}{u:Value}(ht:E.P.underlying t=some (.slice e)) (hop:op=.eql\/op=.neq)
  (hx:AM w (c.bar β s.V) β s.V.cn x u) (he:ev E dst s.V (.eqnil (op == .neq)) [x,.d (.list true [])] K) :
  ∃r,(do eqGuard op t ox oy u (.slice none 0 0);binOp op t u (.slice none 0 0):Sem Value).run E.P w=.ok r w/\∃v,K v .none/\AM w (c.bar β s.V) β s.V.cn v r:=by
 unfold ev at he
 simp only at he
 split at he
 ·rename_i nl l hl
  have hd:=Se h hx hl
  have key:∃a n m,u=.slice a n m/\a.isNone=nl:=by cases hd<;>exact⟨_,_,_,rfl,rfl⟩
  obtain⟨a,n,m,rfl,rfl⟩:=key
  refine⟨.bool (if op == .neq then !a.isNone else a.isNone),?_,_,he,Ie⟩
  have e1:(BinOp.eql == BinOp.neq)=false:=rfl
  have e2:(BinOp.neq == BinOp.neq)=true:=rfl
  have key:(Op.equal t (.slice a n m) (.slice none 0 0)).run E.P w=.ok a.isNone w:=by
   show (Op.equalIn (9999+1) t (.slice a n m) (.slice none 0 0)).run E.P w=_
   generalize 9999=d
   cases a<;>simp[Op.equalIn,run_underlying ht]
  rcases hop with rfl|rfl<;>simp[eqGuard,binOp,key,e1,e2]
 ·exact he.elim
theorem Xp (h:Br E c β s tm w) {dst:Option Nat}{op:BinOp}{t:TypeId}{ox oy:Operand}{xs:List AV}{u v:Value}
  (hxs:DL (AM w (c.bar β s.V) β s.V.cn) xs [u,v]) (he:ev E dst s.V (.bin op) xs K) {vo:Sem Value->Sem Next}(hvo:vo=fun s=>do pure (.value (←s))) :
  XN E c s tm K ((vo (do eqGuard op t ox oy u v;binOp op t u v)).run E.P w):=by
 unfold ev at he
 simp only at he
 split at he
 ·obtain⟨u',v',heq,h1,h2⟩:=Ln hxs
  simp at heq;obtain⟨rfl,rfl⟩:=heq
  exact aQ h h1 h2 he hvo
 ·exact he.elim
theorem aR {dst:Option Nat}{op:BinOp}{t:TypeId}{ox oy:Operand}{xs:List AV}{u v:Value}(ht:E.P.underlying t=some .bool) (hop:op=.eql\/op=.neq)
  (hxs:DL (AM w (c.bar β s.V) β s.V.cn) xs [u,v]) (he:ev E dst s.V (.beq (op == .neq)) xs K) :
  ∃r,(do eqGuard op t ox oy u v;binOp op t u v:Sem Value).run E.P w=.ok r w/\∃v,K v .none/\AM w (c.bar β s.V) β s.V.cn v r:=by
 unfold ev at he
 simp only at he
 split at he
 ·rename_i a b
  obtain⟨u',v',heq,h1,h2⟩:=Ln hxs
  simp at heq;obtain⟨rfl,rfl⟩:=heq
  rw[Hj h1,Hj h2]
  refine⟨.bool (if op == .neq then !(a == b) else (a == b)),?_,_,he,Ie⟩
  have key:(Op.equal t (.bool a) (.bool b)).run E.P w=.ok (a == b) w:=run_equalIn_bool w 9999 t _ _ ht
  rcases hop with rfl|rfl
  ·have:(BinOp.eql == BinOp.neq)=false:=rfl
   simp[eqGuard,binOp,key,this]
  ·have:(BinOp.neq == BinOp.neq)=true:=rfl
   simp[eqGuard,binOp,key,this]
 ·exact he.elim
end
theorem aO {E:CW}{c:D_}{β:Nat->Nat->Value}{s:Bg}{tm:Array Value}{w:World}{K:AV->B3->Prop}(h:Br E c β s tm w) {t ty e:TypeId}{zs:List D}(ht:E.P.underlying t=some (.slice e)) (hz:Hf E.P e=some zs) (hzl:0<zs.length) {dst:Option Nat}{x:AV}{u:Value}
  (hx:AM w (c.bar β s.V) β s.V.cn x u) (he:ev E dst s.V (.clr zs) [x] K):GF E c s tm K ((Builtin.clear_ #[t] ty #[u]).run E.P w):=by
 unfold ev at he
 simp only at he
 split at he
 ·rename_i a es o g heq
  simp only[List.cons.injEq,and_true] at heq
  subst heq
  split at he
  ·rename_i ety es' nl l hg
   obtain⟨rfl,hes,hal,hK⟩:=he
   have hob:=AL.get_some hg
   obtain⟨hlt,ho⟩:=h.objs _ _ _ hob
   cases hx with|mref _ _ _ _ _ hm _ =>
   obtain⟨v,hv⟩:∃v,β o g=v:=⟨_,rfl⟩
   rw[hv] at ho hm
   cases ho with|row _ _ _ _ _ ho =>
   rcases ho with⟨h1,h2,h3⟩|⟨hnl,b,off,cap,cur,h2,h3,h4,h5,h6,h7,h8,h10,h9⟩
   ·subst h3;simp[EH] at hm
   ·subst h2
    simp only[EH] at hm
    rw[if_pos hal] at hm
    simp only[Option.some.injEq] at hm
    obtain⟨zv,hzv,hzr⟩:=RV (E:=E) (w:=w) hz
    have hblk:C8 (β o g) b:=by rw[hv];exact rfl
    by_cases hn:l.length-a=0
    ·have hr:(Builtin.clear_ #[t] ty #[u]).run E.P w=.ok (.tuple #[]) w:=by
      rw[←hm,hn]
      simp[Builtin.clear_,run_underlying ht]
     have hle:l.take a++List.replicate (l.length-a) (D.agg zs)=l:=by
      rw[hn,List.take_of_length_le (by omega)];simp
     rw[hle] at hK
     refine⟨_,w,_,_,β,hr,hK,h.kept hob (FR.refl _ _) fun fb' hf hfe=>?_,.tup [] #[] rfl (fun i c v hi=>by simp at hi)⟩
     rw[hv]
     exact(Dn.row (β:=β) (cn:=s.V.cn) _ _ _ _ _ (.inr ⟨hnl,b,off,cap,cur,rfl,h3,h4,h5,h6,h7,h8,h10,h9⟩)).mono (Ah.refl _ _) hf (fun _ _ _=>rfl) (fun _=>Nat.le_refl _) fun _ _ _=>rfl
    ·have hca:¬cap=a:=by omega
     rw[if_neg hca] at hm
     obtain⟨n,hne⟩:∃n,l.length-a=n+1:=⟨l.length-a-1,by omega⟩
     have hzs:zv.cells.size=es:=by rw[(hzr (c.bar β s.V)).1.1];exact hes
     have hzc:(Builtin.zeroCells zv.cells (l.length-a)).size=(l.length-a)*es:=by simp[Builtin.zeroCells,hzs]
     have hone0:=Gz (one:=D.one) (hzr (c.bar β s.V)).1 (hzr (c.bar β s.V)).2 fun y v h1 h2=>h2.oneCell h1
     have hge:∀q,q<(l.length-a)*es->(Builtin.zeroCells zv.cells (l.length-a))[q]?=zv.cells[q%es]?:=fun q hq=>by
      have:=Mh (z:=zv.cells) (n:=l.length-a) (q:=q) (by rw[hzs];exact hq) (by omega)
      rw[hzs] at this;exact this
     have hone:∀v,v∈(Builtin.zeroCells zv.cells (l.length-a)).toList->v.oneCell'=true:=fun v hv=>by
      obtain⟨q,hq⟩:=List.getElem?_of_mem hv
      have hql:=(List.getElem?_eq_some_iff.1 hq).1
      rw[Array.length_toList,hzc] at hql
      rw[Array.getElem?_toList,hge q hql] at hq
      exact hone0 v (by rw[←Array.getElem?_toList] at hq;exact List.mem_of_getElem? hq)
     have hbig:off+a*es+(l.length-a)*es<=cur.size:=by
      have h12:a*es+(l.length-a)*es=l.length*es:=by rw[←Nat.add_mul];congr 1;omega
      have h13:l.length*es<=cap*es:=Nat.mul_le_mul_right _ h4
      omega
     obtain⟨Z,hZ⟩:∃Z,(Builtin.zeroCells zv.cells (l.length-a))=Z:=⟨_,rfl⟩
     rw[hZ] at hzc hge hone
     have hst:=run_storeCells_at E.P b (off+a*es) ety Z.toList 0 cur w h3 (by simp[hzc];omega) hone
     simp only[Nat.add_zero] at hst
     have hr:(Builtin.clear_ #[t] ty #[u]).run E.P w=.ok (.tuple #[]) (w.setRow b (Bs cur.toList (off+a*es) Z.toList).toArray):=by
      rw[←hm,hne]
      rw[hne] at hZ
      simp[Builtin.clear_,run_underlying ht,hzv,hZ,hst,Bs]
     refine⟨_,_,_,_,β,hr,hK,h.kept hob (by rw[hv];exact Dx rfl) fun fb' hf hfe=>?_,.tup [] #[] rfl (fun i c v hi=>by simp at hi)⟩
     have hstay:Ah (c.bar β s.V) w (w.setRow b (Bs cur.toList (off+a*es) Z.toList).toArray):=fun k hk hlt=>by
      refine setRow_other w b k _ fun hkb=>hk (.inr ⟨o,g,_,hob,by rw[hkb];exact hblk⟩)
     rw[hv]
     have hfit:(off+a*es)+Z.toList.length<=cur.toList.length:=by simp[hzc];omega
     have hlen:(l.take a++List.replicate (l.length-a) (D.agg zs)).length=l.length:=by simp;omega
     have hzag:(D.agg zs).cells=zs:=rfl
     refine .row _ _ _ _ _ (.inr ⟨hnl,b,off,cap,_,by rw[hlen],setRow_heap w b cur _ _ _ h3,by rw[hlen];exact h4,h5,by rw[List.size_toArray,CU hfit];simpa using h6,h7,fun y hy=>?_,fun y cc hy hc=>?_,fun i y j cc hi hj=>?_⟩)
     ·rcases List.mem_append.1 hy with hy|hy
      ·exact h8 y (List.mem_of_mem_take hy)
      ·rw[(List.mem_replicate.1 hy).2,hzag];exact hes
     ·rcases List.mem_append.1 hy with hy|hy
      ·exact h10 y cc (List.mem_of_mem_take hy) hc
      ·rw[(List.mem_replicate.1 hy).2,hzag] at hc;exact(hzr (c.bar β s.V)).2 cc hc
     ·rw[List.getElem?_toArray,Cs hfit]
      have hil:i<l.length:=by have:=(List.getElem?_eq_some_iff.1 hi).1;omega
      have hzl2:Z.toList.length=(l.length-a)*es:=by simp[hzc]
      rw[hzl2]
      by_cases hia:i<a
      ·rw[List.getElem?_append_left (by simp;omega),List.getElem?_take,if_pos hia] at hi
       have hjl:j<es:=by rw[←h8 y (List.mem_of_getElem? hi)];exact(List.getElem?_eq_some_iff.1 hj).1
       have hlt2:i*es+es<=a*es:=by have:=Nat.mul_le_mul_right es (show i+1<=a from hia);rw[Nat.add_mul,Nat.one_mul] at this;exact this
       obtain⟨q,hq,hd⟩:=h9 i y j cc hi hj
       exact⟨q,by rw[if_pos (by omega)];simpa using hq,hd.mono hstay hf⟩
      ·rw[List.getElem?_append_right (by simp;omega)] at hi
       have hi2:=List.mem_of_getElem? hi
       have hy:=(List.mem_replicate.1 hi2).2
       subst hy
       rw[hzag] at hj
       have hjl:j<es:=by rw[←hes];exact(List.getElem?_eq_some_iff.1 hj).1
       obtain⟨k,hk⟩:∃k,i=a+k:=⟨i-a,by omega⟩
       subst hk
       have hkl:k*es+es<=(l.length-a)*es:=by have:=Nat.mul_le_mul_right es (show k+1<=l.length-a by omega);rw[Nat.add_mul,Nat.one_mul] at this;exact this
       have hae:(a+k)*es=a*es+k*es:=Nat.add_mul ..
       rw[if_neg (by omega),if_pos (by omega),show off+(a+k)*es+j-(off+a*es)=k*es+j by omega,Array.getElem?_toList,hge _ (by omega)]
       have hmod:(k*es+j)%es=j:=by rw[Nat.add_comm,Nat.add_mul_mod_self_right];exact Nat.mod_eq_of_lt hjl
       rw[hmod]
       obtain⟨q,hq⟩:∃q,zv.cells[j]?=some q:=⟨_,Array.getElem?_eq_getElem (by omega)⟩
       exact⟨q,hq,((hzr (c.bar β s.V)).1.2 j cc q hj hq).mono hstay hf⟩
  ·exact he.elim
 ·exact he.elim
theorem W5 {E:CW}{c:D_}{β:Nat->Nat->Value}{s:Bg}{tm:Array Value}{w:World}{K:AV->B3->Prop}(h:Br E c β s tm w) {t tx ty e:TypeId}(ht:E.P.underlying t=some (.slice e)) (hsz:Ej E.P e=some 1)
  {o g ety:Nat}{l ys:List D}{a m b off cap:Nat}{cur:Array Value}{v:Value}{news:List Value}{sl:Nat}
  (hob:s.V.ob o=some (g,.row ety 1 false l)) (hv:β o g=.slice (some ⟨b,off,none⟩) l.length cap) (h3:w.heap[b]?=some (.cells cur ety (0,0)))
  (h4:l.length<=cap) (h5:cap<=maxLen) (h6:off+cap*1<=cur.size) (h8:∀x,x∈l->x.cells.length=1) (h10:∀x c,x∈l->c∈x.cells->c.one=true)
  (h9:∀(i:Nat) (x:D) (j:Nat) (c':D),l[i]?=some x->x.cells[j]?=some c'->∃u,cur[off+i*1+j]?=some u/\Az w (c.bar β s.V) c' u)
  (ham:a+m<=l.length) (hyl:ys.length=m) (hnl:news.length=m) (hy8:∀x,x∈ys->x.cells.length=1) (hy10:∀x c,x∈ys->c∈x.cells->c.one=true)
  (hn:∀(i:Nat) (x c':D),ys[i]?=some x->x.cells[0]?=some c'->∃u,news[i]?=some u/\Az w (c.bar β s.V) c' u)
  (hlen:∀w':World,(Builtin.lenOf v).run E.P w'=.ok sl w') (hm:Nat.min sl (l.length-a)=m) (hf:(Builtin.firstCells 1 m v).run E.P w=.ok news.toArray w)
  (hK:K (.d (.int .i64 ((m:Nat):Int))) (.keep o g (.row ety 1 false (l.take a++ys++l.drop (a+m))))) :
  GF E c s tm K ((Builtin.copy_ #[t,tx] ty #[.slice (some (if cap=a then ⟨b,off,none⟩ else ⟨b,off+a*1,none⟩)) (l.length-a) (cap-a),v]).run E.P w):=by
 have hin:K4 .i64 ((m:Nat):Int):=by
  have h7:m<=maxLen:=by omega
  unfold maxLen at h7;simp[K4,IntKind.min,IntKind.max,IntKind.signed,IntKind.bits];omega
 have hblk:C8 (β o g) b:=by rw[hv];exact rfl
 by_cases hm0:m=0
 ·have hn0:news=[]:=List.length_eq_zero_iff.1 (by omega)
  have hy0:ys=[]:=List.length_eq_zero_iff.1 (by omega)
  have hle:l.take a++ys++l.drop (a+m)=l:=by rw[hy0,hm0];simp
  rw[hle] at hK
  subst hn0
  have hr:(Builtin.copy_ #[t,tx] ty #[.slice (some (if cap=a then ⟨b,off,none⟩ else ⟨b,off+a*1,none⟩)) (l.length-a) (cap-a),v]).run E.P w=.ok (.int .i64 ((m:Nat):Int)) w:=by
   simp[Builtin.copy_,run_underlying ht,hlen,Bv hsz,hm,hf,storeCells,goInt]
  refine⟨_,w,_,_,β,hr,hK,h.kept hob (FR.refl _ _) fun fb' hf hfe=>?_,EJ hin⟩
  rw[hv]
  exact(Dn.row (β:=β) (cn:=s.V.cn) _ _ _ _ _ (.inr ⟨rfl,b,off,cap,cur,rfl,h3,h4,h5,h6,by omega,h8,h10,h9⟩)).mono (Ah.refl _ _) hf (fun _ _ _=>rfl) (fun _=>Nat.le_refl _) fun _ _ _=>rfl
 ·have hca:¬cap=a:=by omega
  have hone:∀v,v∈news->v.oneCell'=true:=fun v hv=>by
   obtain⟨q,hq⟩:=List.getElem?_of_mem hv
   have hql:=(List.getElem?_eq_some_iff.1 hq).1
   have hx:ys[q]?=some (ys[q]'(by omega)):=List.getElem?_eq_getElem (by omega)
   have hxm:=List.mem_of_getElem? hx
   have hx1:=hy8 _ hxm
   have hc:(ys[q]'(by omega)).cells[0]?=some ((ys[q]'(by omega)).cells[0]'(by omega)):=List.getElem?_eq_getElem (by omega)
   obtain⟨u,hu,hd⟩:=hn q _ _ hx hc
   rw[hq] at hu;simp at hu;subst hu
   exact hd.oneCell (hy10 _ _ hxm (List.mem_of_getElem? hc))
  have hbig:off+a*1+news.length<=cur.size:=by omega
  have hst:=run_storeCells_at E.P b (off+a*1) ety news 0 cur w h3 (by simpa using hbig) hone
  simp only[Nat.add_zero] at hst
  have hr:(Builtin.copy_ #[t,tx] ty #[.slice (some (if cap=a then ⟨b,off,none⟩ else ⟨b,off+a*1,none⟩)) (l.length-a) (cap-a),v]).run E.P w=.ok (.int .i64 ((m:Nat):Int)) (w.setRow b (Bs cur.toList (off+a*1) news).toArray):=by
   rw[if_neg hca]
   simp only[Nat.mul_one] at hst ⊢
   simp[Builtin.copy_,run_underlying ht,hlen,Bv hsz,hm,hf,hst,goInt,Bs]
  refine⟨_,_,_,_,β,hr,hK,h.kept hob (by rw[hv];exact Dx rfl) fun fb' hf hfe=>?_,EJ hin⟩
  have hstay:Ah (c.bar β s.V) w (w.setRow b (Bs cur.toList (off+a*1) news).toArray):=fun k hk hlt=>by
   refine setRow_other w b k _ fun hkb=>hk (.inr ⟨o,g,_,hob,by rw[hkb];exact hblk⟩)
  rw[hv]
  have hfit:(off+a*1)+news.length<=cur.toList.length:=by simpa using hbig
  have hlen':(l.take a++ys++l.drop (a+m)).length=l.length:=by simp;omega
  have hmem:∀y,y∈l.take a++ys++l.drop (a+m)->y∈l\/y∈ys:=fun y hy=>by
   rcases List.mem_append.1 hy with hy|hy
   ·rcases List.mem_append.1 hy with hy|hy
    ·exact .inl (List.mem_of_mem_take hy)
    ·exact .inr hy
   ·exact .inl (List.mem_of_mem_drop hy)
  refine .row _ _ _ _ _ (.inr ⟨rfl,b,off,cap,_,by rw[hlen'],setRow_heap w b cur _ _ _ h3,by rw[hlen'];exact h4,h5,by rw[List.size_toArray,CU hfit];simpa using h6,by omega,fun y hy=>?_,fun y cc hy hc=>?_,fun i y j cc hi hj=>?_⟩)
  ·exact(hmem y hy).elim (h8 y) (hy8 y)
  ·exact(hmem y hy).elim (fun hh=>h10 y cc hh hc) fun hh=>hy10 y cc hh hc
  ·have hcl:y.cells.length=1:=(hmem y (List.mem_of_getElem? hi)).elim (h8 y) (hy8 y)
   have hj0:j=0:=by have:=(List.getElem?_eq_some_iff.1 hj).1;omega
   subst hj0
   have hil:i<l.length:=by rw[←hlen'];exact(List.getElem?_eq_some_iff.1 hi).1
   rw[List.getElem?_toArray,Cs hfit,hnl]
   by_cases hia:i<a
   ·rw[List.append_assoc,List.getElem?_append_left (by simp;omega),List.getElem?_take,if_pos hia] at hi
    obtain⟨q,hq,hd⟩:=h9 i y 0 cc hi hj
    exact⟨q,by rw[if_pos (by omega)];simpa using hq,hd.mono hstay hf⟩
   ·by_cases him:i<a+m
    ·rw[List.append_assoc,List.getElem?_append_right (by simp;omega),List.getElem?_append_left (by simp;omega)] at hi
     have hta:(l.take a).length=a:=by simp;omega
     rw[hta] at hi
     obtain⟨q,hq,hd⟩:=hn _ y cc hi hj
     exact⟨q,by rw[if_neg (by omega),if_pos (by omega),show off+i*1+0-(off+a*1)=i-a by omega];exact hq,hd.mono hstay hf⟩
    ·rw[List.getElem?_append_right (by simp;omega),List.getElem?_drop] at hi
     have hta:(l.take a++ys).length=a+m:=by simp;omega
     rw[hta,show a+m+(i-(a+m))=i by omega] at hi
     obtain⟨q,hq,hd⟩:=h9 i y 0 cc hi hj
     exact⟨q,by rw[if_neg (by omega),if_neg (by omega)];simpa using hq,hd.mono hstay hf⟩
theorem aN {E:CW}{c:D_}{β:Nat->Nat->Value}{s:Bg}{tm:Array Value}{w:World}{K:AV->B3->Prop}(h:Br E c β s tm w) {t tx ty e e':TypeId}(ht:E.P.underlying t=some (.slice e)) (htx:E.P.underlying tx=some (.slice e')) (hsz:Ej E.P e=some 1)
  {dst:Option Nat}{x y:AV}{u v:Value}(hx:AM w (c.bar β s.V) β s.V.cn x u) (hy:AM w (c.bar β s.V) β s.V.cn y v) (he:ev E dst s.V .cpy [x,y] K) :
  GF E c s tm K ((Builtin.copy_ #[t,tx] ty #[u,v]).run E.P w):=by
 obtain⟨inf,hinf,hsz1⟩:∃i,E.P.info? e=some i/\i.size=1:=by
  unfold Ej at hsz;simpa using hsz
 unfold ev at he
 simp only at he
 split at he
 ·rename_i o g y' heq
  simp only[List.cons.injEq,and_true] at heq;obtain⟨rfl,rfl⟩:=heq
  split at he
  ·rename_i ety es nl l nl' ys hg hd
   obtain⟨rfl,rfl,hun,hK⟩:=he
   have hob:=AL.get_some hg
   obtain⟨hlt,ho⟩:=h.objs _ _ _ hob
   obtain⟨q,hq⟩:∃q,β o g=q:=⟨_,rfl⟩
   have hux:u=q:=by cases hx with|own _ _ _ _=>exact hq
   rw[hq] at ho
   cases ho with|row _ _ _ _ _ ho =>
   rcases ho with⟨h1,_⟩|⟨_,b,off,cap,cur,h2,h3,h4,h5,h6,h7,h8,h10,h9⟩
   ·cases h1
   ·have hdr:=(I4 hy hd).1
    obtain⟨news,hS,hR,hR1⟩:=Nq (E:=E) (i:=inf) (z:=undef) hdr (by rw[hsz1];exact hun) (by omega) htx
    have hR0:∀(i:Nat) (x c':D),ys[i]?=some x->x.cells[0]?=some c'->(B5 ys)[i]?=some c':=fun i x c' hi hc=>by
     have:=Gi hun hi hc
     simpa using this
    have hbase:u=.slice (some (if cap=0 then ⟨b,off,none⟩ else ⟨b,off+0*1,none⟩)) (l.length-0) (cap-0):=by
     rw[hux,h2];simp
    have hnl:news.length=ys.length:=by
     have:=hR.1
     rw[List.size_toArray,B6 hun] at this
     omega
    have hmin:ys.take l.length=ys.take (min ys.length l.length):=by
     rcases Nat.le_total ys.length l.length with hle|hle
     ·rw[Nat.min_eq_left hle,List.take_of_length_le hle,List.take_of_length_le (Nat.le_refl _)]
     ·rw[Nat.min_eq_right hle]
    obtain⟨m,hm⟩:∃m,min ys.length l.length=m:=⟨_,rfl⟩
    rw[hmin,hm] at hK
    have hnn:∀(i:Nat) (x c':D),(ys.take m)[i]?=some x->x.cells[0]?=some c'->∃u,(news.take m)[i]?=some u/\Az w (c.bar β s.V) c' u:=fun i x c' hi hc=>by
     rw[List.getElem?_take] at hi
     split at hi
     ·rename_i him
      have hf:=hR0 i x c' hi hc
      have hil:i<news.length:=by rw[hnl];exact(List.getElem?_eq_some_iff.1 hi).1
      refine⟨news[i],by rw[List.getElem?_take,if_pos him];exact List.getElem?_eq_getElem hil,hR.2 i c' _ hf (by simp[hil])⟩
     ·cases hi
    have hlenr:(∀w':World,(Builtin.lenOf v).run E.P w'=.ok ys.length w')/\(Builtin.firstCells 1 m v).run E.P w=.ok (news.take m).toArray w:=by
     rcases hS with⟨e1,_,⟨rfl,hz,rfl⟩|⟨a1,cap1,rfl,hl1,hnews⟩⟩|⟨hi,_⟩
     ·have hm0:m=0:=by omega
      refine⟨fun w'=>by simp[Builtin.lenOf,hz],by simp[Builtin.firstCells]⟩
     ·refine⟨fun w'=>by simp[Builtin.lenOf],run_firstCells_some w 1 m a1 ys.length cap1 (news.take m) (by simp;omega) fun j z hj=>?_⟩
      rw[List.getElem?_take] at hj
      split at hj
      ·exact hnews j z hj
      ·cases hj
     ·rw[htx] at hi;cases hi
    rw[hbase]
    refine W5 (a:=0) (m:=m) (ys:=ys.take m) (news:=news.take m) (sl:=ys.length) h ht hsz hob (by rw[hq,h2]) h3 h4 h5 h6 h8 h10 h9 (by omega) (by simp;omega) (by simp;omega) (fun x hx=>hun x (List.mem_of_mem_take hx))
     (fun x cc hx hc=>hR1 cc (List.mem_flatMap.2 ⟨x,List.mem_of_mem_take hx,hc⟩)) hnn hlenr.1 (by rw[Nat.sub_zero];exact hm) hlenr.2 (by simpa using hK)
  ·exact he.elim
 ·rename_i a es o g n o' g' heq
  simp only[List.cons.injEq,and_true] at heq;obtain⟨rfl,rfl⟩:=heq
  split at he
  ·rename_i ety es' nl l hg
   obtain⟨rfl,rfl,rfl,rfl,rfl,hna,hal,hK⟩:=he
   have hob:=AL.get_some hg
   obtain⟨hlt,ho⟩:=h.objs _ _ _ hob
   obtain⟨q,hq⟩:∃q,β o' g'=q:=⟨_,rfl⟩
   cases hx with|mref _ _ _ _ _ hmx _ =>
   cases hy with|mref _ _ _ _ _ hmy _ =>
   rw[hq] at ho hmx hmy
   cases ho with|row _ _ _ _ _ ho =>
   rcases ho with⟨h1,_⟩|⟨_,b,off,cap,cur,h2,h3,h4,h5,h6,h7,h8,h10,h9⟩
   ·cases h1
   ·subst h2
    simp only[EH] at hmx hmy
    rw[if_pos hal] at hmx
    rw[if_pos (by omega)] at hmy
    simp only[Option.some.injEq] at hmx hmy
    subst hmx hmy
    obtain⟨m,hm⟩:∃m,min n (l.length-a)=m:=⟨_,rfl⟩
    rw[hm] at hK
    have hml:m<=l.length:=by omega
    have hnn:∀(i:Nat) (x c':D),(l.take m)[i]?=some x->x.cells[0]?=some c'->∃u,((cur.toList.drop off).take m)[i]?=some u/\Az w (c.bar β s.V) c' u:=fun i x c' hi hc=>by
     rw[List.getElem?_take] at hi
     split at hi
     ·rename_i him
      obtain⟨u,hu,hd⟩:=h9 i x 0 c' hi hc
      exact⟨u,by rw[List.getElem?_take,if_pos him,List.getElem?_drop];simpa using hu,hd⟩
     ·cases hi
    refine W5 (a:=a) (m:=m) (ys:=l.take m) (news:=(cur.toList.drop off).take m) (sl:=n) h ht hsz hob hq h3 h4 h5 h6 h8 h10 h9 (by omega) (by simp;omega) (by simp;omega) (fun x hx=>h8 x (List.mem_of_mem_take hx))
     (fun x cc hx hc=>h10 x cc (List.mem_of_mem_take hx) hc) hnn (fun w'=>by simp[Builtin.lenOf]) hm (run_firstCells_some w 1 m _ n cap _ (by simp;omega) fun j z hj=>?_) hK
    rw[List.getElem?_take] at hj
    split at hj
    ·rw[Addr.add_lit,CC h3]
     rw[List.getElem?_drop] at hj
     simpa using hj
    ·cases hj
  ·exact he.elim
 ·exact he.elim
end Go.Pw
end
section
namespace Go.Pw
open Go.RowKit
section
variable {E:CW}{c:D_}{β:Nat->Nat->Value}{s:Bg}{a:Act}{w:World}{K:AV->B3->Prop}
theorem T0 {tm:Array Value}(h:Br E c β s tm w) {isMax:Bool}{dst:Option Nat}{x:Operand}{asq:List Operand}{xs:List AV}(hxs:DL (AM w (c.bar β s.V) β s.V.cn) xs ((x::asq).map a.eval)) (he:ev E dst s.V (.minmax isMax) xs K) {m:Sem Next}
  (hm:m.run E.P w=(do let v ←(asq.map a.eval).foldlM (if isMax then Builtin.max2 else Builtin.min2) (a.eval x);pure (Next.value v):Sem Next).run E.P w):XN E c s tm K (m.run E.P w):=by
 rw[hm]
 unfold ev at he
 simp only at he
 split at he
 ·obtain⟨u,us',heq,h1,h2⟩:=hxs.cons'
  simp only[List.map_cons,List.cons.injEq] at heq
  obtain⟨rfl,rfl⟩:=heq
  split at he
  ·rename_i r hr
   obtain⟨he1,he2⟩:=Bl h1
   rw[he1]
   obtain⟨h3,h4⟩:=Yh (E:=E) he2 h2 hr
   exact DJ h he (by simp only[Sem.run_bind,h3,Result.andThen_ok,Sem.run_pure]) (EJ h4)
  ·exact he.elim
 ·exact he.elim
theorem Ul (h:Br E c β s a.tmps w) {draw:Bool}{o:Oper}{cl:Call}{iop:Bw}{ops:List Operand}{xs:List AV}(hop:o.op=.call cl) (hd:J3 E draw cl=some (iop,ops))
  (hxs:DL (AM w (c.bar β s.V) β s.V.cn) xs (ops.map a.eval)) (he:ev E o.dst s.V iop xs K):XN E c s a.tmps K ((execOp a.eval o).run E.P w):=by
 have hex:execOp a.eval o=(do let d ←resolve a.eval cl o.type;invoke d.target d.args):=by simp[execOp,hop]
 rw[hex]
 obtain⟨callee,args,argTypes⟩:=cl
 have valueCase:∀x,callee=.value x->iop=.callv->ops=x::args.toList->XN E c s a.tmps K (((do let d ←resolve a.eval ⟨callee,args,argTypes⟩ o.type;invoke d.target d.args:Sem Next)).run E.P w):=by
  intro x hc h1 h2
  subst hc h1 h2
  simp only[List.map_cons] at hxs
  cases xs with
  |nil=>exact absurd hxs.1 (by simp)
  |cons y ys =>
   have hc:=hxs.cons
   have:=Vw (us:=args.map a.eval) (dst:=o.dst) h hc.1 (by simpa using hc.2) he
   simpa[resolve] using this
 have two:∀{x y:Operand},ops=[x,y]->∃ax ay,xs=[ax,ay]/\AM w (c.bar β s.V) β s.V.cn ax (a.eval x)/\AM w (c.bar β s.V) β s.V.cn ay (a.eval y):=by
  intro x y hops
  subst hops
  cases xs with
  |nil=>exact absurd hxs.1 (by simp)
  |cons ax ys =>
   cases ys with
   |nil=>exact absurd hxs.1 (by simp)
   |cons ay zs =>
    cases zs with
    |cons _ _=>exact absurd hxs.1 (by simp)
    |nil =>
     obtain⟨u,v,hu',h1,h2⟩:=Ln hxs
     simp at hu';obtain⟨rfl,rfl⟩:=hu'
     exact⟨ax,ay,rfl,h1,h2⟩
 cases callee with
 |invoke x n=>cases hd
 |value f =>
  cases f with
  |func f =>
   simp only[J3] at hd
   split at hd
   ·rename_i hb
    simp at hd;obtain⟨rfl,rfl⟩:=hd
    have:=K8 (f:=f) (us:=args.map a.eval) (cap:=#[]) (cs:=[]) (xs:=xs) (dst:=o.dst) h hb (by simpa using hxs) ⟨by simp,by simp⟩ (by simpa[ev] using he)
    simpa[resolve,Act.eval] using this
   ·cases hd
  |tmp t=>simp[J3] at hd;exact valueCase _ rfl hd.1.symm hd.2.symm
  |const t=>simp[J3] at hd;exact valueCase _ rfl hd.1.symm hd.2.symm
  |global t=>simp[J3] at hd;exact valueCase _ rfl hd.1.symm hd.2.symm
 |builtin b =>
  obtain⟨args⟩:=args
  simp only[J3] at hd
  cases b<;>simp only[SR] at hd<;>try (cases hd;done)
  case len =>
   split at hd<;>try (cases hd;done)
   rename_i x
   have hred:∀(t:TypeId),argTypes[0]?=some t->(do let d ←resolve a.eval ⟨.builtin .len,#[x],argTypes⟩ o.type;invoke d.target d.args:Sem Next)=(do let v ←Builtin.len_ #[t] o.type #[a.eval x];pure (Next.value v)):=by
    intro t ht
    simp[resolve,invoke,builtin,Builtin.len_,ht]
   have one:ops=[x]->∃ax,xs=[ax]/\AM w (c.bar β s.V) β s.V.cn ax (a.eval x):=by
    intro hops
    subst hops
    cases xs with
    |nil=>exact absurd hxs.1 (by simp)
    |cons y ys =>
     cases ys with
     |cons _ _=>exact absurd hxs.1 (by simp)
     |nil =>
      obtain⟨u,hu',h1⟩:=HC hxs
      simp at hu';subst hu'
      exact⟨y,rfl,h1⟩
   split at hd
   ·rename_i e hu
    simp at hd;obtain⟨rfl,rfl⟩:=hd
    simp only[Option.bind_eq_some_iff] at hu;obtain⟨t,ht,hu⟩:=hu
    obtain⟨ax,rfl,h1⟩:=one rfl
    rw[hred t ht]
    exact Dm h (TX h (dst:=o.dst) (m:=false) ⟨_,hu⟩ h1 he)
   ·rename_i k e hu
    simp at hd;obtain⟨rfl,rfl⟩:=hd
    simp only[Option.bind_eq_some_iff] at hu;obtain⟨t,ht,hu⟩:=hu
    obtain⟨ax,rfl,h1⟩:=one rfl
    rw[hred t ht]
    exact Dm h (TX h (dst:=o.dst) (m:=true) ⟨_,_,hu⟩ h1 he)
   ·cases hd
  case copy =>
   split at hd<;>try (cases hd;done)
   rename_i x y
   split at hd<;>try (cases hd;done)
   rename_i e e' hu hu'
   split at hd<;>try (cases hd;done)
   rename_i hsz
   simp at hd;obtain⟨rfl,rfl⟩:=hd
   simp only[Option.bind_eq_some_iff] at hu hu';obtain⟨t,ht,hu⟩:=hu;obtain⟨t',ht',hu'⟩:=hu'
   cases xs with
   |nil=>exact absurd hxs.1 (by simp)
   |cons a1 ys =>
    cases ys with
    |nil=>exact absurd hxs.1 (by simp)
    |cons a2 zs =>
     cases zs with
     |cons _ _=>exact absurd hxs.1 (by simp)
     |nil =>
      obtain⟨u,v,huv,h1,h2⟩:=Ln hxs
      simp at huv;obtain⟨rfl,rfl⟩:=huv
      have hred:(do let d ←resolve a.eval ⟨.builtin .copy,#[x,y],argTypes⟩ o.type;invoke d.target d.args:Sem Next)=(do let v ←Builtin.copy_ #[t,t'] o.type #[a.eval x,a.eval y];pure (Next.value v)):=by
       simp[resolve,invoke,builtin,Builtin.copy_,ht]
      rw[hred]
      exact CS (aN h hu hu' hsz h1 h2 he)
  case delete =>
   split at hd<;>try (cases hd;done)
   rename_i x y
   split at hd<;>try (cases hd;done)
   rename_i kt e hu
   cases hk:Ch E.P kt with
   |none=>simp[hk] at hd
   |some tys =>
    simp[hk] at hd;obtain⟨rfl,rfl⟩:=hd
    simp only[Option.bind_eq_some_iff] at hu;obtain⟨t,ht,hu⟩:=hu
    obtain⟨ax,ay,rfl,h1,h2⟩:=two rfl
    have hred:(do let d ←resolve a.eval ⟨.builtin .delete,#[x,y],argTypes⟩ o.type;invoke d.target d.args:Sem Next)=(do let v ←Builtin.delete_ argTypes o.type #[a.eval x,a.eval y];pure (Next.value v)):=by
     simp[resolve,invoke,builtin]
    rw[hred]
    exact CS (Uk (ta:=t) h hu hk h1 h2 he ht)
  case clear =>
   split at hd<;>try (cases hd;done)
   rename_i x
   split at hd<;>try (cases hd;done)
   rename_i e hu
   split at hd<;>try (cases hd;done)
   rename_i zs hag hz
   split at hd<;>try (cases hd;done)
   rename_i hzl
   simp at hd;obtain⟨rfl,rfl⟩:=hd
   simp only[Option.bind_eq_some_iff] at hu;obtain⟨t,ht,hu⟩:=hu
   cases xs with
   |nil=>exact absurd hxs.1 (by simp)
   |cons y ys =>
    cases ys with
    |cons _ _=>exact absurd hxs.1 (by simp)
    |nil =>
     obtain⟨u,hu',h1⟩:=HC hxs
     simp at hu';subst hu'
     have hred:(do let d ←resolve a.eval ⟨.builtin .clear,#[x],argTypes⟩ o.type;invoke d.target d.args:Sem Next)=(do let v ←Builtin.clear_ #[t] o.type #[a.eval x];pure (Next.value v)):=by
      simp[resolve,invoke,builtin,Builtin.clear_,ht]
     rw[hred]
     exact CS (aO h hu hz hzl h1 he)
  case cap =>
   split at hd<;>try (cases hd;done)
   rename_i x
   split at hd<;>try (cases hd;done)
   rename_i e hu
   simp at hd;obtain⟨rfl,rfl⟩:=hd
   simp only[Option.bind_eq_some_iff] at hu;obtain⟨t,ht,hu⟩:=hu
   cases xs with
   |nil=>exact absurd hxs.1 (by simp)
   |cons y ys =>
    cases ys with
    |cons _ _=>exact absurd hxs.1 (by simp)
    |nil =>
     obtain⟨u,hu',h1⟩:=HC hxs
     simp at hu';subst hu'
     unfold ev at he
     simp only at he
     split at he
     ·rename_i heq
      simp at heq;subst heq
      have hnil:a.eval x=.slice none 0 0:=by
       generalize a.eval x=u at h1 ⊢
       cases h1 with|d _ _ hd=>cases hd;rfl
      refine DJ h he ?_ (EJ (n:=0) (k:=.i64) (by simp[K4,IntKind.min,IntKind.max,IntKind.signed,IntKind.bits]))
      simp[resolve,invoke,builtin,Builtin.cap_,ht,hnil,run_underlying hu,goInt]
     ·exact he.elim
  case min =>
   split at hd<;>try (cases hd;done)
   rename_i x asq
   simp at hd;obtain⟨rfl,rfl⟩:=hd
   refine T0 h (isMax:=false) (dst:=o.dst) hxs he ?_
   simp[resolve,invoke,builtin,Builtin.min_]
  case max =>
   split at hd<;>try (cases hd;done)
   rename_i x asq
   simp at hd;obtain⟨rfl,rfl⟩:=hd
   refine T0 h (isMax:=true) (dst:=o.dst) hxs he ?_
   simp[resolve,invoke,builtin,Builtin.max_]
  case append =>
   split at hd<;>try (cases hd;done)
   rename_i x y
   split at hd<;>try (cases hd;done)
   rename_i e ty hu hv
   simp only[Option.bind_eq_some_iff] at hu hv
   obtain⟨t,ht,hu⟩:=hu
   obtain⟨tx,htx,hv⟩:=hv
   split at hd<;>try (cases hd;done)
   rename_i i z hi hz
   split at hd<;>try (cases hd;done)
   rename_i hcond
   obtain⟨hpos,hby,hzz⟩:=hcond
   simp only[Option.map_eq_some_iff] at hzz
   obtain⟨zv,hzv,hzs⟩:=hzz
   have hred:(do let d ←resolve a.eval ⟨.builtin .append,#[x,y],argTypes⟩ o.type;invoke d.target d.args:Sem Next)=(do let v ←Builtin.append_ #[t,tx] o.type #[a.eval x,a.eval y];pure (Next.value v)):=by
    have:Builtin.append_ argTypes o.type #[a.eval x,a.eval y]=Builtin.append_ #[t,tx] o.type #[a.eval x,a.eval y]:=by
     simp only[Builtin.append_,ht,htx,List.getElem?_toArray,List.getElem?_cons_zero,List.getElem?_cons_succ]
    simp[resolve,invoke,builtin,this]
   split at hd<;>try (cases hd;done)
   ·split at hd<;>try (cases hd;done)
    rename_i e' he'
    subst he'
    simp at hd;obtain⟨rfl,rfl⟩:=hd
    obtain⟨ax,ay,rfl,h1,h2⟩:=two rfl
    rw[hred]
    exact CS (TZ h hu hi hzv hpos hby hzs (.inl ⟨rfl,_,hv⟩) h1 h2 he)
   ·split at hd<;>try (cases hd;done)
    rename_i hzl
    simp at hd;obtain⟨rfl,rfl⟩:=hd
    obtain⟨ax,ay,rfl,h1,h2⟩:=two rfl
    rw[hred]
    exact CS (TZ h hu hi hzv hpos hby hzs (.inr ⟨z,rfl,hv,hz,hi,hzv,hzl,hby⟩) h1 h2 he)
theorem Tw {α γ δ:Type}(f:α->δ) (g:δ->Option γ):∀l:List α,BV g (l.map f)=BV (fun x=>g (f x)) l
 |[]=>rfl
 |x::l=>by simp only[List.map_cons,BV,Tw f g l]
theorem Rz {P:Program}{t:TypeId}{tys:HS}(h:Ch P t=some tys) (hu:(∃fs,P.underlying t=some (.struct fs))\/∃n e,P.underlying t=some (.array n e)):tys.1=true:=by
 unfold Ch at h
 rcases hu with⟨fs,hu⟩|⟨n,e,hu⟩
 ·simp only[hu] at h
  split at h
  ·simp only[Option.map_eq_some_iff] at h
   obtain⟨l,_,rfl⟩:=h;rfl
  ·cases h
 ·simp only[hu] at h
  split at h
  ·simp only[Option.map_eq_some_iff] at h
   obtain⟨l,_,rfl⟩:=h;rfl
  ·cases h
theorem Vm {i:Nat}{v u:Value}(hs:Rl i v=some u):∃ad,u=.pointer (some ad):=by
 unfold Rl at hs
 split at hs
 ·simp at hs;exact⟨_,hs.symm⟩
 ·cases hs
theorem Zc {i:Nat}{v u:Value}(h:EH (.xp i) v=some u):∃ad,u=.pointer (some ad):=by
 cases v with
 |tuple vs =>
  simp only[EH,Option.bind_eq_some_iff] at h
  obtain⟨x,_,hs⟩:=h
  exact Vm hs
 |_=>simp[EH] at h
theorem Zd {j k:Nat}{v u:Value}(h:EH (.mp j k) v=some u):∃ad,u=.pointer (some ad):=by
 cases v with
 |tuple vs =>
  simp only[EH,Option.bind_eq_some_iff] at h
  obtain⟨x,_,hs⟩:=h
  exact Vm hs
 |_=>simp[EH] at h
theorem bO (h:Br E c β s a.tmps w) {dst:Option Nat}{x:AV}{u:Value}(hx:AM w (c.bar β s.V) β s.V.cn x u) (he:ev E dst s.V .nilck [x] K) {m:Sem Next}
  (hm:∀ad,u=.pointer (some ad)->m=pure (.value u)):XN E c s a.tmps K (m.run E.P w):=by
 unfold ev at he
 simp only at he
 have key:∀ad,u=.pointer (some ad)->K x .none->XN E c s a.tmps K (m.run E.P w):=fun ad hu hK=>DJ h hK (by rw[hm ad hu];simp) hx
 split at he
 ·rename_i heq;simp at heq;subst heq
  cases hx with|mref _ _ _ _ _ hm _ =>
  obtain⟨ad,rfl⟩:=Zc hm
  exact key _ rfl he
 ·rename_i heq;simp at heq;subst heq
  cases hx with|mref _ _ _ _ _ hm _ =>
  obtain⟨ad,rfl⟩:=Zd hm
  exact key _ rfl he
 ·rename_i heq;simp at heq;subst heq
  cases hx with|ablk _ _ _ b base vs u hb hne h1 hc hv hu=>subst hu;exact key _ rfl he
 ·rename_i heq;simp at heq;subst heq
  cases hx with|ptr _ _ _ b _ _=>exact key _ rfl he
 ·rename_i heq;simp at heq;subst heq
  cases hx with|rptr=>exact key _ rfl he
 ·rename_i heq;simp at heq;subst heq
  cases hx with|dptr=>exact key _ rfl he
 ·rename_i heq;simp at heq;subst heq
  cases hx with|d _ _ hx=>cases hx with|ptr=>exact key _ rfl (by assumption)
 ·exact he.elim
theorem fH (h:Br E c β s a.tmps w) {draw used:Bool}{o:Oper}{iop:Bw}{ops:List Operand}{xs:List AV}(hd:Zu E draw used o.op=some (iop,ops))
  (hxs:DL (AM w (c.bar β s.V) β s.V.cn) xs (ops.map a.eval)) (he:ev E o.dst s.V iop xs K):XN E c s a.tmps K ((execOp a.eval o).run E.P w):=by
 have one:∀{x:Operand},ops=[x]->∃ax,xs=[ax]/\AM w (c.bar β s.V) β s.V.cn ax (a.eval x):=by
  intro x hops
  subst hops
  cases xs with
  |nil=>exact absurd hxs.1 (by simp)
  |cons y ys =>
   cases ys with
   |cons _ _=>exact absurd hxs.1 (by simp)
   |nil =>
    obtain⟨u,hu',h1⟩:=HC hxs
    simp at hu';subst hu'
    exact⟨y,rfl,h1⟩
 have two:∀{x y:Operand},ops=[x,y]->∃ax ay,xs=[ax,ay]/\AM w (c.bar β s.V) β s.V.cn ax (a.eval x)/\AM w (c.bar β s.V) β s.V.cn ay (a.eval y):=by
  intro x y hops
  subst hops
  cases xs with
  |nil=>exact absurd hxs.1 (by simp)
  |cons ax ys =>
   cases ys with
   |nil=>exact absurd hxs.1 (by simp)
   |cons ay zs =>
    cases zs with
    |cons _ _=>exact absurd hxs.1 (by simp)
    |nil =>
     obtain⟨u,v,hu',h1,h2⟩:=Ln hxs
     simp at hu';obtain⟨rfl,rfl⟩:=hu'
     exact⟨ax,ay,rfl,h1,h2⟩
 have three:∀{x y z:Operand},ops=[x,y,z]->∃ax ay az,xs=[ax,ay,az]/\AM w (c.bar β s.V) β s.V.cn ax (a.eval x)/\AM w (c.bar β s.V) β s.V.cn ay (a.eval y)/\AM w (c.bar β s.V) β s.V.cn az (a.eval z):=by
  intro x y z hops
  subst hops
  cases xs with
  |nil=>exact absurd hxs.1 (by simp)
  |cons ax ys =>
   cases ys with
   |nil=>exact absurd hxs.1 (by simp)
   |cons ay zs =>
    cases zs with
    |nil=>exact absurd hxs.1 (by simp)
    |cons az zs' =>
     cases zs' with
     |cons _ _=>exact absurd hxs.1 (by simp)
     |nil =>
      obtain⟨u,v,t,hu',h1,h2,h3⟩:=gf hxs
      simp at hu';obtain⟨rfl,rfl,rfl⟩:=hu'
      exact⟨ax,ay,az,rfl,h1,h2,h3⟩
 obtain⟨dst,op,ty,pos,after,guard⟩:=o
 simp only at he hd
 cases op<;>(try unfold Zu at hd)<;>(try simp only at hd)<;>(try (cases hd;done))
 case move x =>
  simp at hd;obtain⟨rfl,rfl⟩:=hd
  obtain⟨ax,rfl,h1⟩:=one rfl
  exact DJ h (by simpa[ev] using he) (by simp[execOp]) h1
 case assign x =>
  simp at hd;obtain⟨rfl,rfl⟩:=hd
  obtain⟨ax,rfl,h1⟩:=one rfl
  exact DJ h (by simpa[ev] using he) (by simp[execOp]) h1
 case pick x y z =>
  simp at hd;obtain⟨rfl,rfl⟩:=hd
  obtain⟨ax,ay,az,rfl,h1,h2,h3⟩:=three rfl
  obtain⟨b,hb,r,hK,hr⟩:=Xl h1 h2 h3 he
  exact DJ h hK (by simp[execOp,hb,asBool]) hr
 case box t x =>
  simp at hd;obtain⟨rfl,rfl⟩:=hd
  obtain⟨ax,rfl,h1⟩:=one rfl
  cases dst with
  |none=>simp[ev] at he
  |some t=>exact CS (aP h h1 he)
 case alloc e =>
  cases hz:Hf E.P e with
  |none=>simp[hz] at hd
  |some z =>
   simp[hz] at hd;obtain⟨rfl,rfl⟩:=hd
   have:xs=[]:=List.eq_nil_of_length_eq_zero (by have:=hxs.1;simpa using this.symm)
   subst this
   cases dst with
   |none=>simp[ev] at he
   |some t=>exact CS (Xj h hz he)
 case build t parts =>
  split at hd<;>try (cases hd;done)
  ·rename_i z fs hz hu
   split at hd<;>try (cases hd;done)
   rename_i places hp
   split at hd<;>try (cases hd;done)
   rename_i pl hpl
   simp at hd;obtain⟨rfl,rfl⟩:=hd
   refine CS (QJ h (ix:=parts.toList.map (·.1)) hz (.inl ⟨fs,places,hu,hp,?_⟩) hxs he (by simpa using MD))
   rw[Tw];exact hpl
  ·rename_i z n e hz hu
   split at hd<;>try (cases hd;done)
   rename_i sz hsz
   simp at hd;obtain⟨rfl,rfl⟩:=hd
   exact CS (QJ h (ix:=parts.toList.map (·.1)) hz (.inr ⟨n,e,sz,hu,hsz,by simp⟩) hxs he (by simpa using MD))
 case buildSlice t len parts =>
  split at hd<;>try (cases hd;done)
  rename_i e hu
  split at hd<;>try (cases hd;done)
  rename_i z sz hz hsz
  split at hd<;>try (cases hd;done)
  rename_i hcond
  obtain⟨hpos,hzl,hsmall⟩:=hcond
  simp at hd;obtain⟨rfl,rfl⟩:=hd
  unfold Ej at hsz
  simp only[Option.map_eq_some_iff] at hsz
  obtain⟨ie,hie,rfl⟩:=hsz
  split at he
  ·cases dst with
   |none=>simp[ev] at he
   |some t=>exact CS (Uc h hu hie hz hpos hzl.symm hsmall hxs (by simpa using MD) he)
  ·exact CS (Vp h hu hie hz hpos hzl.symm hsmall hxs (by simpa using MD) he)
 case load t x =>
  split at hd<;>try (cases hd;done)
  rename_i ag n hag hn
  split at hd<;>try (cases hd;done)
  simp at hd;obtain⟨rfl,rfl⟩:=hd
  obtain⟨ax,rfl,h1⟩:=one rfl
  exact Dm h (Rm h hag hn h1 he)
 case store t x y =>
  split at hd<;>try (cases hd;done)
  rename_i n hn
  split at hd<;>try (cases hd;done)
  rename_i hpos
  simp at hd;obtain⟨rfl,rfl⟩:=hd
  obtain⟨ax,ay,rfl,h1,h2⟩:=two rfl
  exact SC (Vn h hn hpos h1 h2 he)
 case nilCheck x =>
  simp at hd;obtain⟨rfl,rfl⟩:=hd
  obtain⟨ax,rfl,h1⟩:=one rfl
  exact bO h h1 he fun ad hu=>by simp[execOp,hu]
 case binOp b t x y _ =>
  unfold gi at hd
  have hop:∀{n},ct b=some n->(b=.eql\/b=.neq)/\n=(b == .neq):=by
   intro n hn
   cases b<;>simp[ct] at hn<;>subst hn<;>simp<;>rfl
  split at hd<;>try (cases hd;done)
  ·rename_i k hu
   simp at hd;obtain⟨rfl,rfl⟩:=hd
   exact Xp h (by simpa using hxs) he rfl
  ·rename_i hu
   simp only[Option.map_eq_some_iff] at hd
   obtain⟨n,hn,hd⟩:=hd
   obtain⟨hb,rfl⟩:=hop hn
   simp at hd;obtain⟨rfl,rfl⟩:=hd
   exact Dm h (aR (dst:=dst) hu hb (by simpa using hxs) he)
  ·rename_i fs hu
   simp only[Option.map_eq_some_iff,Option.bind_eq_some_iff] at hd
   obtain⟨n,hn,tys,ht,hd⟩:=hd
   obtain⟨hb,rfl⟩:=hop hn
   simp at hd;obtain⟨rfl,rfl⟩:=hd
   obtain⟨ax,ay,rfl,h1,h2⟩:=two rfl
   exact Dm h (TY h (dst:=dst) ht (Rz ht (.inl ⟨_,hu⟩)) hb h1 h2 he)
  ·rename_i n' e hu
   simp only[Option.map_eq_some_iff,Option.bind_eq_some_iff] at hd
   obtain⟨n,hn,tys,ht,hd⟩:=hd
   obtain⟨hb,rfl⟩:=hop hn
   simp at hd;obtain⟨rfl,rfl⟩:=hd
   obtain⟨ax,ay,rfl,h1,h2⟩:=two rfl
   exact Dm h (TY h (dst:=dst) ht (Rz ht (.inr ⟨_,_,hu⟩)) hb h1 h2 he)
  ·rename_i e hu
   simp only[Option.map_eq_some_iff] at hd
   obtain⟨n,hn,hd⟩:=hd
   obtain⟨hb,rfl⟩:=hop hn
   simp at hd;obtain⟨rfl,rfl⟩:=hd
   obtain⟨ax,ay,rfl,h1,h2⟩:=two rfl
   have hay:ay=.d (.list true []):=by
    unfold ev at he
    simp only at he
    split at he
    ·rename_i heq;simp at heq;exact heq.2
    ·exact he.elim
   subst hay
   have hv:a.eval y=.slice none 0 0:=by
    generalize a.eval y=v at h2
    cases h2 with|d _ _ h2=>cases h2;rfl
   rw[show execOp a.eval ⟨dst,.binOp b t x y _,ty,pos,after,guard⟩=(do let v ←(do eqGuard b t x y (a.eval x) (a.eval y);binOp b t (a.eval x) (a.eval y));pure (Next.value v)) from rfl,hv]
   exact Dm h (Vu h (dst:=dst) hu hb h1 he)
 case unOp u t x =>
  simp at hd;obtain⟨rfl,rfl⟩:=hd
  exact Dm h (eM h (dst:=dst) (by simpa using hxs) he)
 case convert st t x =>
  split at hd<;>try (cases hd;done)
  rename_i k' k hs ht
  simp at hd;obtain⟨rfl,rfl⟩:=hd
  obtain⟨ax,rfl,h1⟩:=one rfl
  exact Dm h (Xo h (dst:=dst) hs ht h1 he)
 case makeFunc fn first captured =>
  cases fn<;>(try simp only at hd)<;>(try (cases hd;done))
  rename_i f
  split at hd
  ·rename_i hcond
   simp at hd;obtain⟨rfl,rfl⟩:=hd
   have hfirst:first=#[]:=by apply Array.eq_empty_of_size_eq_zero;exact hcond.1
   subst hfirst
   exact DJ h (by simpa[ev] using he) (by simp[execOp,Instr.makeFunc]) (.fn f _ (captured.map a.eval) (by have:=hxs.1;simpa using this) fun i x u hx hu=>hxs.2 i x u hx (by simpa using hu))
  ·split at hd<;>try (cases hd;done)
   rename_i hcond
   simp at hd;obtain⟨rfl,rfl⟩:=hd
   have hcap:captured=#[]:=by apply Array.eq_empty_of_size_eq_zero;exact hcond.1
   subst hcap
   exact DJ h (by simpa[ev] using he) (by simp[execOp,Instr.makeFunc]) (.bnd f _ (first.map a.eval) (by have:=hxs.1;simpa using this) fun i x u hx hu=>hxs.2 i x u hx (by simpa using hu))
 case makeMap t r =>
  cases r with
  |some r=>simp only at hd;cases hd
  |none =>
   simp only at hd
   split at hd<;>try (cases hd;done)
   rename_i kt e hu
   cases hk:Ch E.P kt with
   |none=>simp[hk] at hd
   |some tys =>
    simp[hk] at hd;obtain⟨rfl,rfl⟩:=hd
    have:xs=[]:=List.eq_nil_of_length_eq_zero (by have:=hxs.1;simpa using this.symm)
    subst this
    cases dst with
    |none=>simp[ev] at he
    |some t=>exact CS (Vq h he)
 case makeSlice t x y =>
  split at hd<;>try (cases hd;done)
  rename_i e hu
  split at hd<;>try (cases hd;done)
  rename_i i z hi hz
  split at hd<;>try (cases hd;done)
  rename_i hcond
  simp at hd;obtain⟨rfl,rfl⟩:=hd
  obtain⟨ax,ay,rfl,h1,h2⟩:=two rfl
  cases dst with
  |none=>simp[ev] at he
  |some t=>exact CS (Xn h hu hi hz hcond.1 hcond.2.1 hcond.2.2 h1 h2 he)
 case slice t x lo hi mx =>
  split at hd<;>try (cases hd;done)
  case h_2 =>
   rename_i n e hu
   split at hd<;>try (cases hd;done)
   split at hd<;>try (cases hd;done)
   rename_i hcond
   simp at hd;obtain⟨rfl,rfl⟩:=hd
   obtain⟨ax,ay,az,rfl,h1,h2,h3⟩:=three rfl
   refine CS (UZ h hu hcond.1 hcond.2 (hv:=a.eval (hi.getD (.const (.int .i64 n)))) (hiv:=hi.map a.eval) ?_ h1 h2 h3 he)
   cases hi with
   |none=>exact .inr ⟨rfl,rfl⟩
   |some _=>exact .inl rfl
  rename_i e hu
  split at hd<;>try (cases hd;done)
  rename_i sz hsz
  split at hd<;>try (cases hd;done)
  rename_i hpos
  simp at hd;obtain⟨rfl,rfl⟩:=hd
  simp only[List.map_cons] at hxs
  obtain⟨ax,ys,rfl⟩:∃ax ys,xs=ax::ys:=by cases xs with
   |nil=>exact absurd hxs.1 (by simp)
   |cons y ys=>exact⟨y,ys,rfl⟩
  have hc:=hxs.cons
  cases mx with
  |none =>
   refine CS (Vo h (lov:=lo.map a.eval) (hiv:=hi.map a.eval) hu hsz hpos hc.1 ⟨_,rfl,?_,?_⟩ (by simpa using he))
   ·have:=hc.2.1;cases lo<;>cases hi<;>simpa using this
   ·have:=hc.2.2;cases lo<;>cases hi<;>simpa using this
  |some m =>
   refine CS (Ua h (lov:=lo.map a.eval) (hiv:=hi.map a.eval) (mv:=a.eval m) hu hsz hpos hc.1 ⟨_,rfl,?_,?_⟩ (by simpa using he))
   ·have:=hc.2.1;cases lo<;>cases hi<;>simpa using this
   ·have:=hc.2.2;cases lo<;>cases hi<;>simpa using this
 case fieldAddr t x f =>
  split at hd<;>try (cases hd;done)
  rename_i fs hu
  simp only[Option.bind_eq_some_iff] at hd
  obtain⟨fd,hf,hd⟩:=hd
  split at hd<;>try (cases hd;done)
  rename_i n hn
  split at hd<;>try (cases hd;done)
  rename_i hpos
  simp at hd;obtain⟨rfl,rfl⟩:=hd
  obtain⟨ax,rfl,h1⟩:=one rfl
  exact Dm h (Vt hu hf hn hpos h1 he)
 case field t x f =>
  split at hd<;>try (cases hd;done)
  rename_i fs hu
  simp only[Option.bind_eq_some_iff] at hd
  obtain⟨fd,hf,hd⟩:=hd
  split at hd<;>try (cases hd;done)
  rename_i ag n hag hn
  split at hd<;>try (cases hd;done)
  simp at hd;obtain⟨rfl,rfl⟩:=hd
  obtain⟨ax,rfl,h1⟩:=one rfl
  exact Dm h (Vs h hu hf hag hn h1 he)
 case indexAddr t x i =>
  split at hd<;>try (cases hd;done)
  ·rename_i e hu
   split at hd<;>try (cases hd;done)
   rename_i sz hsz
   split at hd<;>try (cases hd;done)
   simp at hd;obtain⟨rfl,rfl⟩:=hd
   obtain⟨ax,ay,rfl,h1,h2⟩:=two rfl
   exact Dm h (Ui hu hsz h h1 h2 he)
  ·rename_i n e hu
   split at hd<;>try (cases hd;done)
   rename_i sz hsz
   split at hd<;>try (cases hd;done)
   simp at hd;obtain⟨rfl,rfl⟩:=hd
   obtain⟨ax,ay,rfl,h1,h2⟩:=two rfl
   exact Dm h (Uj hu hsz h1 h2 he)
 case index t x i =>
  split at hd
  ·rename_i n e hu
   split at hd<;>try (cases hd;done)
   rename_i ag sz hag hsz
   split at hd<;>try (cases hd;done)
   simp at hd;obtain⟨rfl,rfl⟩:=hd
   obtain⟨ax,ay,rfl,h1,h2⟩:=two rfl
   exact Dm h (Vr h hu hag hsz h1 h2 he)
  ·rename_i hu
   split at hd<;>try (cases hd;done)
   simp at hd;obtain⟨rfl,rfl⟩:=hd
   obtain⟨ax,rfl,h1⟩:=one rfl
   exact Dm h (Xk h hu h1 he)
  ·cases hd
 case lookup t x k ok =>
  split at hd<;>try (cases hd;done)
  rename_i kt e hu
  split at hd<;>try (cases hd;done)
  rename_i tys z ht hz
  simp at hd;obtain⟨rfl,rfl⟩:=hd
  obtain⟨ax,ay,rfl,h1,h2⟩:=two rfl
  exact CS (Uh h hu ht hz h1 h2 he)
 case mapUpdate t m k v =>
  split at hd<;>try (cases hd;done)
  rename_i kt e hu
  cases hk:Ch E.P kt with
  |none=>simp[hk] at hd
  |some tys =>
   simp[hk] at hd;obtain⟨rfl,rfl⟩:=hd
   obtain⟨ax,ay,az,rfl,h1,h2,h3⟩:=three rfl
   exact SC (Uf h hu hk h1 h2 h3 he)
 case mapEntry t m k =>
  split at hd<;>try (cases hd;done)
  rename_i kt e hu
  split at hd<;>try (cases hd;done)
  rename_i tys z ht hz
  split at hd<;>try (cases hd;done)
  rename_i hz1
  simp at hd;obtain⟨rfl,rfl⟩:=hd
  obtain⟨ax,ay,rfl,h1,h2⟩:=two rfl
  exact CS (Ug h hu ht hz hz1 h1 h2 he)
 case entryStore t m k v =>
  simp at hd;obtain⟨rfl,rfl⟩:=hd
  obtain⟨ax,ay,az,rfl,h1,h2,h3⟩:=three rfl
  exact SC (Vv h h1 h2 h3 he)
 case range t x =>
  split at hd<;>try (cases hd;done)
  rename_i kt e hu
  simp at hd;obtain⟨rfl,rfl⟩:=hd
  obtain⟨ax,rfl,h1⟩:=one rfl
  cases dst with
  |none=>simp[ev] at he
  |some t=>exact CS (Ub h hu h1 he)
 case entry x =>
  simp at hd;obtain⟨rfl,rfl⟩:=hd
  obtain⟨ax,rfl,h1⟩:=one rfl
  exact CS (Ue h h1 he)
 case extract x i =>
  simp at hd;obtain⟨rfl,rfl⟩:=hd
  obtain⟨ax,rfl,h1⟩:=one rfl
  exact Dm h (Sx h1 he)
 case call cl=>exact Ul h rfl hd hxs he
end
end Go.Pw
end

/- Part. -/
import Derived.Test.YtmdklgapccickaaGreatDoorPwO
import Derived.Great.BuildSlice
set_option linter.all false
open List renaming getElem?_eq_some_iff->aa,getElem?_append_left->ax,getElem?_append_right->ay,getElem?_eq_getElem->cp,getElem?_toArray->c8,mem_flatMap->eb,mem_of_getElem?->f0,getElem?_cons_succ->hX,map_cons->hY,replicate->i5,getElem?_map->j4,mem_append->kk,mem_cons->ox,eq_of_mem_replicate->oy,length_nil->pv,append_nil->ra,eq_nil_of_length_eq_zero->rb,range->ro,size_toArray->rz,length_pos_iff->r4,cons_append->s7,getElem?_cons_zero->uk,getElem?_of_mem->va,mem_cons_of_mem->wa,nodup_cons->wb,mem_map_of_mem->wc,any_eq_true->wd,length_cons->wn,append_assoc->w8,length_append->z0,getElem?_set_self->qAA
open Nat renaming le_refl->az,mul_comm->et,div_add_mod->i7,mul_le_mul_right->la,lt_of_lt_of_le->lb,mod_lt->na,add_zero->ne,zero_add->q7,add_mul->r3,mul_one->uv,le_trans->vb,mul_ne_zero->wz,div_lt_of_lt_mul->x5,add_assoc->y1,lt_or_ge->qAB
open Option renaming map_eq_some_iff->ck,bind_eq_some_iff->cw,map_some->qAE,filter_eq_some_iff->qAF
open Bool renaming and_eq_true->ea,false_eq_true->wj
open Array renaming getD_eq_getD_getElem?->hU,getElem?_eq_getElem->j0,getElem?_append_left->no,getElem?_eq_some_iff->r5,ext'->w3,size_append->y3,toList_append->qAC,eq_empty_of_size_eq_zero->qAD
section
namespace Go.Pw
open Go.RowKit
section
variable {E:CW}{c:EG}{β:Nat->Nat->Value}{s:BG}{tm:Array Value}{w:World}{K:AV->Bs->Prop}
theorem iO{ty e:TypeId}{o:TypeInfo}{z:D}{len:Nat}(ht:E.P.underlying ty=some (.slice e))(hi:E.P.info? e=some o)(hz:F4 E.P e=some z)(i:0<o.size)(J:z.cells.length=o.size)
  (L:len*o.size<=16777216) {ix:List Nat}{xs:List AV}{us:List Value}{l:List D}(O:ix.length=xs.length) (hxs:C_ (AP w (c.bar β s.V) β s.V.cn) xs us)
  (hf:Ga o.size (i5 len z) (ix.zip xs)=some l) {j:Array (Nat×Value)}(m:j.toList=ix.zip us) (h:BZ E c β s tm w) :
  ∃cells,(Instr.buildSlice ty len j).run E.P w=.ok (.slice (some ⟨w.heap.size,0,none⟩) len len) (w.alloc (.cells cells e))/\l.length=len /\
   ∀fb',(∀b,b<w.heap.size->fb' b->c.bar β s.V b)->B3 (w.alloc (.cells cells e)) fb' e o.size false l (.slice (some ⟨w.heap.size,0,none⟩) len len):=by
 obtain⟨i',M,t,U,δ,α,ε,R⟩:=OV hz;rw[hi]at t;simp at t;subst t;have G:Cc o.size (i5 len z):=fun y r=>by rw[oy r];exact J
 have X:=Bl G
 have A:∀y,y∈Ba (i5 len z)->y.one=true:=fun y r=>by
  simp only[Ba,eb]at r;obtain⟨q,B,r⟩:=r;rw[oy B]at r;exact α y r
 have N:CV (Ar w (c.bar β s.V)) (Ba (i5 len z)) (madeCells M.cells (len*o.size)):=by
  refine⟨by rw[size_madeCells,X];simp,fun q y u B hu=>?_⟩;obtain⟨a1,a2⟩:=H8 J i B;obtain⟨u',Y,hd⟩:=R w (c.bar β s.V) _ _ a2;have:=PL (z:=M.cells) (n:=len) (es:=o.size) (by omega) a1 (na q i);rw[et (q/o.size),i7,hu,Y]at this;simp at this;subst this;exact hd
 obtain⟨cells,T,S,g3,g4,g5⟩:=ci ix xs us _ l _ O hxs G A N hf;have p:l.length=len:=by simpa using g5
 refine⟨cells,?_,p,fun fb' Z=>?_⟩
 ·by_cases h0:len=0
  ·subst h0;have γ:madeCells M.cells (0*o.size)=#[]:=by simp[madeCells,Array.range_zero']
   rw[γ]at T;have hs:sizeOf e=(do pure (←typeInfo e).size):=rfl;simp[Instr.buildSlice,run_underlying ht,sizeOf,typeInfo,hi,newRow,m,Array.range_zero',T]
  ·have:=run_buildSlice (P:=E.P) w ty e len j cells o M ht hi U (by omega) (by have:=Nat.mul_pos (Nat.pos_of_ne_zero h0) i;omega) (by rw[m];exact T);exact this
 ·have:=Sa (w':=w.alloc (.cells cells e)) (fb:=fb') (ety:=e) (es:=o.size) (l:=l) (b:=w.heap.size) (cap:=len) (cur:=cells) (heap_alloc_new w _) (by omega) (by unfold maxLen;have:len<=len*o.size:=Nat.le_mul_of_pos_right _ i;omega)
   (by rw[S.1,Bl g3,p];exact az _) i g3 (fun x y hx r=>g4 y (eb.2 ⟨x,hx,r⟩)) (fun q y B=>by
    obtain⟨u,hu⟩:∃u,cells[q]?=some u:=⟨_,j0 (by have:=(aa.1 B).1;have:=S.1;omega)⟩
    exact⟨u,hu,(S.2 q y u B hu).mono (.of_below (CL w _)) Z⟩)
  rwa [p]at this
theorem Yg(h:BZ E c β s tm w){t:Nat}{ty e:TypeId}{q:TypeInfo}{z:D}{len:Nat}(ht:E.P.underlying ty=some (.slice e))(hi:E.P.info? e=some q)(B:F4 E.P e=some z)(u:0<q.size)(y:z.cells.length=q.size)
  (m:len*q.size<=16777216) {ix:List Nat}{xs:List AV}{us:List Value}(hxs:C_ (AP w (c.bar β s.V) β s.V.cn) xs us) {i:Array (Nat×Value)}(j:i.toList=ix.zip us)
  (n:ev E (some t) s.V (.mkrowO e q.size z len ix) xs K):JU E c s tm K ((Instr.buildSlice ty len i).run E.P w):=by
 unfold ev at n;simp only at n;split at n
 ·rename_i M l h1 L;simp only[Option.some.injEq]at h1;subst h1;obtain⟨o,x,n⟩:=n;obtain⟨cells,r,A,p⟩:=iO ht hi B u y m x hxs L j h;obtain⟨β',G,J⟩:=K6 h (t:=t) o (CL w _) (vo:=.slice (some ⟨w.heap.size,0,none⟩) len len) rfl (fun b hb=>by simp[C4,A9]at hb;subst hb;exact⟨az _,by simp⟩) p;exact⟨_,_,_,_,β',r,n,G,J⟩
 ·exact n.elim
theorem au(h:BZ E c β s tm w){dst:Option Nat}{ty e:TypeId}{n:TypeInfo}{z:D}{len:Nat}(ht:E.P.underlying ty=some (.slice e))(hi:E.P.info? e=some n)(hz:F4 E.P e=some z)(X:0<n.size)(α:z.cells.length=n.size)
  (y:len*n.size<=16777216) {ix:List Nat}{xs:List AV}{us:List Value}(hxs:C_ (AP w (c.bar β s.V) β s.V.cn) xs us) {m:Array (Nat×Value)}(o:m.toList=ix.zip us)
  (A:ev E dst s.V (.mkrow n.size z len ix) xs K):JU E c s tm K ((Instr.buildSlice ty len m).run E.P w):=by
 unfold ev at A;simp only at A;split at A
 ·rename_i q p;obtain⟨hes,rfl,rfl,hK⟩:=A;obtain⟨u,us',rfl,hu,Y⟩:=hxs.cons';have:=Y.nil;subst this;obtain⟨i',B,G,δ,ζ,θ,η,ε⟩:=OV hz;rw[hi]at G;simp at G;subst G;have R:u.oneCell'=true:=hu.oneCell rfl;have L:=Hc R;have r:(madeCells B.cells (1*n.size)).size=1:=by rw[size_madeCells,hes]
  have γ:=Lp (cells:=madeCells B.cells (1*n.size)) (off:=0*n.size) (vs:=u.cells) (by rw[r,L];simp)
  have U:(BX (madeCells B.cells (1*n.size)).toList (0*n.size) u.cells.toList).toArray=#[u]:=by
   rw[L,Nat.zero_mul];have hd:(madeCells B.cells (1*n.size)).toList.drop 1=[]:=List.drop_eq_nil_of_le (by rw[Array.length_toList,r];exact az _);simp only[BX,List.take_zero,List.nil_append,wn,pv,q7];rw[hd];rfl
  have J:Instr.fill (fun i=>some (i*n.size,n.size)) ((Array.range (1*n.size)).map (B.cells[·%B.cells.size]!)) m.toList=some #[u]:=by
   rw[o];show Instr.fill (fun i=>some (i*n.size,n.size)) (madeCells B.cells (1*n.size)) [(0,u)]=some #[u];rw[Instr.fill];simp only;rw[if_neg (by rw[r,L];simp[hes])];rw[γ,U];rfl
  have x:=run_buildSlice (P:=E.P) w ty e 1 m #[u] n B ht hi δ (by omega) (by omega) J;have O:=CL w (.cells #[u] e);have t:=h.grow O;refine⟨_,_,_,.none,β,x,hK,t,.ablk true _ 0 w.heap.size 0 (fun _=>u) _ (fun hb=>by have:=JQ h hb;omega) (by simp) (fun c hc=>by simp at hc;subst hc;rfl) (fun j c M=>?_) (fun j c M=>?_) rfl⟩
  ·cases j with
   |zero=>rw[CI (heap_alloc_new w _)];rfl
   |succ j=>simp at M
  ·cases j with
   |zero=>simp at M;subst M;exact hu.mono (.of_below O) (fun _ _ hb=>hb) (fun _ _ _=>rfl) (fun _=>az _)
   |succ j=>simp at M
 split at A
 ·rename_i l hf;obtain⟨Z,A⟩:=A;obtain⟨cells,x,N,S⟩:=iO ht hi hz X α y Z hxs hf o h;have t:=h.grow (CL w (.cells cells e));refine⟨_,_,_,.none,β,x,A,t,?_⟩
  have:=Cq (S _ fun b _ hb=>hb) fun b hb T=>by
   simp[C4,A9]at hb;subst hb;have:=JQ h T;omega
  subst N;exact .ex l _ this
 ·exact A.elim
def xc(P:Program)(w:World)(i:TypeInfo)(z:Value)(tx:TypeId)(x:Value)(n:Nat)(news:List Value):Prop :=
 (∃e',P.underlying tx=some (.slice e')/\((x=.slice none 0 0/\n=0/\news=[]) \/
  ∃a cap,x=.slice (some a) n cap/\news.length=n*i.size/\∀(j:Nat) (v:Value),news[j]?=some v->w.cell? (a.add j)=some v)) \/
 (P.underlying tx=some (.int .i64)/\x=.int .i64 n/\n<=Ch/\i.bytes<=131072/\news=(Builtin.zeroCells z.cells n).toList/\z.cells.size=i.size/\0<i.size)
theorem Pl{n:Nat}(h:n<=Ch):IntKind.i64.wrap (n:Int)=n:=by
 have h':n<=1073741824:=h;rw[IntKind.wrap_i64];omega
section
variable {P:Program}{w:World}
theorem Qk{t A ty e:TypeId}{i:TypeInfo}{z:Value}(ht:P.underlying t=some (.slice e))(hi:P.info? e=some i)(B:i.zero=some z){x:Value}{n:Nat}{h:List Value}(hs:xc P w i z A x n h)
  {b off sLen sCap:Nat}{cur:Array Value}(hb:w.heap[b]?=some (.cells cur e (0,0))) (j:sLen+n<=sCap) (o:off+sLen*i.size+h.length<=cur.size) (h1:∀v,v∈h->v.oneCell'=true) :
  (Builtin.append_ #[t,A] ty #[.slice (some ⟨b,off,none⟩) sLen sCap,x]).run P w=.ok (.slice (some ⟨b,off,none⟩) (sLen+n) sCap) (w.setRow b (BX cur.toList (off+sLen*i.size) h).toArray):=by
 have l:=run_storeCells_at P b (off+sLen*i.size) e h 0 cur w hb (by simpa using o) h1;simp only[ne]at l;rcases hs with⟨e',hx,⟨rfl,rfl,rfl⟩|⟨a,cap,rfl,hl,hnews⟩⟩|⟨hx,rfl,hn,hby,rfl,hzs,hpos⟩
 ·simp only[ra,pv,ne]at l;simp[Builtin.append_,run_underlying ht,run_underlying hx,sizeOf,typeInfo,hi,Builtin.lenOf,Builtin.firstCells,j,Addr.add_lit,BX];have:sLen<=sCap:=by omega
  simp[this];simp[storeCells];rw[setRow_self w b cur e (0,0) hb]
 ·have J:=run_firstCells_some (P:=P) w i.size n a n cap h hl hnews;simp[Builtin.append_,run_underlying ht,run_underlying hx,sizeOf,typeInfo,hi,Builtin.lenOf,j,J,Addr.add_lit,l,BX]
 ·have y:=Pl hn;have G:n<=1073741824:=hn
  have h2:¬(281474976710656<(n:Int)*(i.bytes:Int)):=by
   have:(n:Int)*(i.bytes:Int)<=1073741824*131072:=Int.mul_le_mul (by omega) (by omega) (by omega) (by omega);omega
  have p:∀w':World,(typeInfo e).run P w'=.ok i w':=fun w'=>by simp[typeInfo,hi]
  have r:∀w':World,(zeroValue e).run P w'=.ok z w':=fun w'=>by simp[zeroValue,typeInfo,hi,B]
  have hne:i.size≠0:=by omega
  have h0:¬((n:Int)<0):=by omega
  by_cases m:n=0
  ·subst m;have q:(Builtin.zeroCells z.cells 0).toList=[]:=by simp[Builtin.zeroCells]
   rw[q]at l ⊢;have:sLen<=sCap:=by omega
   have u:IntKind.i64.wrap 0=0:=by simpa using y
   simp[Builtin.append_,run_underlying ht,run_underlying hx,sizeOf,p,asInt,asIntOf,u,this,Addr.add_lit,BX];simp[storeCells];rw[setRow_self w b cur e (0,0) hb]
  ·simp[Builtin.append_,run_underlying ht,run_underlying hx,sizeOf,p,r,asInt,asIntOf,y,h0,h2,j,m,hne,(wz m hne),Addr.add_lit,l,BX]
theorem u6{need old:Nat}(h:need<=2*Ch)(h0:old<need):Builtin.nextslicecap need old<=4*Ch:=by
 unfold Builtin.nextslicecap;split
 ·omega
 ·split
  ·omega
  ·have key:∀(r c:Nat),c<=4*Ch->Builtin.growBy need r c<=4*Ch:=by
    intro r
    induction r with
    |zero=>intro c hc;simpa[Builtin.growBy]using hc
    |succ r ih =>
     intro c hc;simp only[Builtin.growBy];split
     ·exact hc
     ·exact ih _ (by unfold Ch at *;omega)
   exact key 4 old (by omega)
theorem Ql{t U ty e:TypeId}{i:TypeInfo}{z:Value}(ht:P.underlying t=some (.slice e))(hi:P.info? e=some i)(L:i.zero=some z)(M:i.bytes<=65536){x:Value}{n:Nat}{o:List Value}(hs:xc P w i z U x n o)
  {a:Option Addr}{sLen sCap:Nat}{l:List Value}(hlo:l.length=sLen*i.size) (holds:(a=none/\sLen=0)\/∃J,a=some J/\∀(j:Nat) (v:Value),l[j]?=some v->w.cell? (J.add j)=some v)
  (u:sCap<sLen+n) (r:sLen+n<=Ch) :
  ∃cap cur,(Builtin.append_ #[t,U] ty #[.slice a sLen sCap,x]).run P w=.ok (.slice (some ⟨w.heap.size,0,none⟩) (sLen+n) cap) (w.drew.alloc (.cells cur e))/\sLen+n<=cap/\cap<=maxLen /\
   cur=(l++o).toArray++Builtin.zeroCells z.cells (cap-(sLen+n)):=by
 refine⟨grownCap w (sLen+n) sCap e,_,?_,grownCap_ge w (sLen+n) sCap e,grownCap_le_maxLen w (sLen+n) sCap e (by unfold Ch at r;unfold maxLen;omega),rfl⟩;have O:=u6 (need:=sLen+n) (old:=sCap) (by omega) u;have G:¬(sLen+n<=sCap):=by omega
 have q:¬(9223372036854775807<((sLen:Int)+(n:Int))):=by unfold Ch at r;omega
 have h:¬(281474976710656<Builtin.nextslicecap (sLen+n) sCap*i.bytes):=by
  have:Builtin.nextslicecap (sLen+n) sCap*i.bytes<=(4*Ch)*65536:=Nat.mul_le_mul O M;unfold Ch at this;omega
 have p:(Builtin.firstCells i.size sLen (.slice a sLen sCap)).run P w.drew=.ok l.toArray w.drew:=by
  rcases holds with⟨rfl,rfl⟩|⟨J,rfl,hc⟩
  ·simp at hlo;subst hlo;simp[Builtin.firstCells]
  ·exact run_firstCells_some (P:=P) w.drew i.size sLen J sLen sCap l hlo (by simpa using hc)
 rcases hs with⟨e',hx,⟨rfl,rfl,rfl⟩|⟨b,cap,rfl,hl,hnews⟩⟩|⟨hx,rfl,hn,hby',rfl,hzs,hpos⟩
 ·have:¬sLen<=sCap:=by omega
  have m:¬(9223372036854775807<(sLen:Int)):=by omega
  simp only[ne]at h;simp[Builtin.append_,run_underlying ht,run_underlying hx,sizeOf,typeInfo,zeroValue,hi,L,Builtin.lenOf,this,m,h,Question.forced,p,newRow,grownCap,run_firstCells_none]
 ·have Y:=run_firstCells_some (P:=P) w.drew i.size n b n cap o hl (by simpa using hnews);simp[Builtin.append_,run_underlying ht,run_underlying hx,sizeOf,typeInfo,zeroValue,hi,L,Builtin.lenOf,G,q,h,Question.forced,Y,p,newRow,grownCap];congr 2;apply w3;simp[w8]
 ·have S:=Pl hn;have X:n<=1073741824:=hn
  have h2:¬(281474976710656<(n:Int)*(i.bytes:Int)):=by
   have:(n:Int)*(i.bytes:Int)<=1073741824*131072:=Int.mul_le_mul (by omega) (by omega) (by omega) (by omega);omega
  have A:∀w':World,(typeInfo e).run P w'=.ok i w':=fun w'=>by simp[typeInfo,hi]
  have B:∀w':World,(zeroValue e).run P w'=.ok z w':=fun w'=>by simp[zeroValue,typeInfo,hi,L]
  have hne:i.size≠0:=by omega
  have h0:¬((n:Int)<0):=by omega
  by_cases y:n=0
  ·subst y;have N:(Builtin.zeroCells z.cells 0).toList=[]:=by simp[Builtin.zeroCells]
   have T:(Builtin.zeroCells z.cells 0)=#[]:=by simp[Builtin.zeroCells]
   have:¬sLen<=sCap:=by omega
   have m:¬(9223372036854775807<(sLen:Int)):=by omega
   have R:IntKind.i64.wrap 0=0:=by simpa using S
   simp only[ne]at h;simp[Builtin.append_,run_underlying ht,run_underlying hx,sizeOf,A,B,asInt,asIntOf,R,this,m,h,Question.forced,p,newRow,grownCap,N]
  ·simp[Builtin.append_,run_underlying ht,run_underlying hx,sizeOf,A,B,asInt,asIntOf,S,h0,h2,G,q,h,y,hne,(wz y hne),Question.forced,p,newRow,grownCap];congr 2;apply w3;simp[w8]
end
end
end Go.Pw
end
section
namespace Go.Pw
open Go.RowKit
section
variable {P:Program}{w:World}
theorem Lh{t q ty e:TypeId}{i:TypeInfo}{z:Value}(ht:P.underlying t=some (.slice e))(hi:P.info? e=some i)(r:i.zero=some z){x:Value}{j:List Value}(hs:xc P w i z q x 0 j)
  {a:Option Addr}{sLen sCap:Nat}(h:sLen<=sCap) :
  (Builtin.append_ #[t,q] ty #[.slice a sLen sCap,x]).run P w=.ok (.slice a sLen sCap) w/\j=[]:=by
 have l:∀w':World,(typeInfo e).run P w'=.ok i w':=fun w'=>by simp[typeInfo,hi]
 have o:∀w':World,(zeroValue e).run P w'=.ok z w':=fun w'=>by simp[zeroValue,typeInfo,hi,r]
 rcases hs with⟨e',hx,⟨rfl,_,rfl⟩|⟨b,cap,rfl,hl,hnews⟩⟩|⟨hx,rfl,hn,hby',rfl,hzs,hpos⟩
 ·refine⟨?_,rfl⟩
  cases a<;>simp[Builtin.append_,run_underlying ht,run_underlying hx,sizeOf,l,Builtin.lenOf,h,run_firstCells_none,storeCells]
 ·have:j=[]:=rb (by omega);subst this;refine⟨?_,rfl⟩;have u:=run_firstCells_some (P:=P) w i.size 0 b 0 cap [] (by simp) (by simp)
  cases a<;>simp[Builtin.append_,run_underlying ht,run_underlying hx,sizeOf,l,Builtin.lenOf,h,u,storeCells]
 ·have m:(Builtin.zeroCells z.cells 0).toList=[]:=by simp[Builtin.zeroCells]
  have p:IntKind.i64.wrap 0=0:=by have:=Pl (n:=0) (by unfold Ch;omega);simpa using this
  refine⟨?_,m⟩
  cases a<;>simp[Builtin.append_,run_underlying ht,run_underlying hx,sizeOf,l,o,asInt,asIntOf,p,h,storeCells]
end
section
variable {E:CW}{c:EG}{β:Nat->Nat->Value}{s:BG}{tm:Array Value}{w:World}{K:AV->Bs->Prop}
theorem da(w:World):Below w.heap.size w w:=Below.refl _ _
theorem am{fb:Nat->Prop}{ys:List D}{O L:TypeId}{i:TypeInfo}{z:Value}{es b off cap:Nat}{vs:Nat->Nat->Value}(hs:Cc es ys)(h1:∀x c,x∈ys->c∈x.cells->c.one=true)
  (hc:∀(i:Nat) (x:D) (j:Nat) (c:D),ys[i]?=some x->x.cells[j]?=some c->w.cell? ⟨b,off+i*es+j,none⟩=some (vs i j))
  (hv:∀(i:Nat) (x:D) (j:Nat) (c:D),ys[i]?=some x->x.cells[j]?=some c->Ar w fb c (vs i j)) (hu:Cc i.size ys) (B:0<i.size) (hx:E.P.underlying O=some (.slice L)) :
  ∃l,xc E.P w i z O (.slice (some ⟨b,off,none⟩) ys.length cap) ys.length l/\CV (Ar w fb) (Ba ys) l.toArray/\∀y,y∈Ba ys->y.one=true:=by
 cases ys with
 |nil=>exact⟨[],.inl ⟨L,hx,.inr ⟨_,cap,rfl,by simp,by simp⟩⟩,⟨by simp[Ba],fun j x v e=>by simp[Ba]at e⟩,by simp[Ba]⟩
 |cons M N =>
  have t:i.size=es:=(hu M (by simp)).symm.trans (hs M (by simp));subst t;generalize hys:M::N=ys at *;have n:=Bl hu
  have m:∀(q:Nat) (x:D),(Ba ys)[q]?=some x->∃p,ys[q/i.size]?=some p/\p.cells[q%i.size]?=some x:=by
   intro q x r;have h:q<ys.length*i.size:=by rw[←n];exact(aa.1 r).1
   have hi:q/i.size<ys.length:=x5 (by rw[et];exact h);have e:q%i.size<i.size:=na _ B;have hp:ys[q/i.size]?=some ys[q/i.size]:=cp hi;have hl:=hu _ (f0 hp);have A:ys[q/i.size].cells[q%i.size]?=some (ys[q/i.size].cells[q%i.size]'(by omega)):=cp (by omega);have:=Ip hu hp A;rw[et,i7,r]at this;simp at this;subst this;exact⟨_,hp,A⟩
  refine⟨(ro (ys.length*i.size)).map fun q=>vs (q/i.size) (q%i.size),.inl ⟨L,hx,.inr ⟨_,cap,rfl,by simp,fun j v e=>?_⟩⟩,⟨by simp[n],fun j x v e u=>?_⟩,fun y G=>?_⟩
  ·simp only[j4,List.getElem?_range]at e
   by_cases h:j<ys.length*i.size
   ·have J:(Ba ys)[j]?=some ((Ba ys)[j]'(by omega)):=cp (by omega);obtain⟨p,hp,o⟩:=m j _ J;simp[h]at e;have:=hc _ p _ _ hp o;rw[Addr.add_lit];rw[show off+j=off+j/i.size*i.size+j%i.size by rw[y1,et,i7]];rw[this,e]
   ·simp at e;obtain⟨q,r,_⟩:=e;have:=(aa.1 r).1;simp at this;omega
  ·obtain⟨p,hp,o⟩:=m j x e;have h:j<ys.length*i.size:=by rw[←n];exact(aa.1 e).1
   simp[h]at u;subst u;exact hv _ p _ x hp o
  ·simp only[Ba,eb]at G;obtain⟨q,r,G⟩:=G;exact h1 q y r G
theorem VB{fb:Nat->Prop}{nl:Bool}{ys:List D}{u:Value}{tx m:TypeId}{i:TypeInfo}{z:Value}(h:Ar w fb (.list nl ys) u)(hu:Cc i.size ys)(l:0<i.size)(hx:E.P.underlying tx=some (.slice m)) :
  ∃e,xc E.P w i z tx u ys.length e/\CV (Ar w fb) (Ba ys) e.toArray/\∀y,y∈Ba ys->y.one=true:=by
 cases h with
 |nil=>exact⟨[],.inl ⟨m,hx,.inl ⟨rfl,rfl,rfl⟩⟩,⟨by simp[Ba],fun j x v n=>by simp[Ba]at n⟩,by simp[Ba]⟩
 |empty a cap hm=>exact⟨[],.inl ⟨m,hx,.inr ⟨a,cap,rfl,by simp,by simp⟩⟩,⟨by simp[Ba],fun j x v n=>by simp[Ba]at n⟩,by simp[Ba]⟩
 |list _ es b off cap vs hcap hm hb hes hs h1 hc hv=>exact am (E:=E) hs h1 hc hv hu l hx
theorem iC{fb:Nat->Prop}{ety es:Nat}{nl:Bool}{ys:List D}{u:Value}{o n:TypeId}{i:TypeInfo}{z:Value}(h:B3 w fb ety es nl ys u)(hu:Cc i.size ys)(m:0<i.size)(hx:E.P.underlying o=some (.slice n)) :
  ∃e,xc E.P w i z o u ys.length e/\CV (Ar w fb) (Ba ys) e.toArray/\∀y,y∈Ba ys->y.one=true:=by
 rcases h with⟨h1,h2,h3⟩|⟨h1,b,off,cap,cur,h2,h3,h4,h5,h6,h7,h8,h10,h9⟩
 ·subst h2 h3;exact⟨[],.inl ⟨n,hx,.inl ⟨rfl,rfl,rfl⟩⟩,⟨by simp[Ba],fun j x v l=>by simp[Ba]at l⟩,by simp[Ba]⟩
 ·subst h2;refine am (E:=E) (vs:=fun i j=>cur.getD (off+i*es+j) undef) h8 h10 (fun i x j c hi l=>?_) (fun i x j c hi l=>?_) hu m hx
  ·obtain⟨u,hu,_⟩:=h9 i x j c hi l;rw[CI h3,hu];simp[hU,hu]
  ·obtain⟨u,hu,hd⟩:=h9 i x j c hi l;simpa[hU,hu]using hd
theorem Wj{z:Array Value}{n q:Nat}(e:q<n*z.size)(h:0<z.size):(Builtin.zeroCells z n)[q]?=z[q%z.size]?:=by
 have hm:q%z.size<z.size:=na _ h;simp only[Builtin.zeroCells,Array.getElem?_map,Array.getElem?_range,e,if_true,qAE];rw[getElem!_pos z _ hm,j0 hm]
theorem Qd(h:BZ E c β s tm w){X e:TypeId}{i:TypeInfo}{zv:Value}{N:Option D}{y:AV}{u:Value}{ys:List D}(p:AP w (c.bar β s.V) β s.V.cn y u)(hs:Dq s.V N y=some ys)(hu:Cc i.size ys)(m:0<i.size)
  (B:(N=none/\∃Y,E.P.underlying X=some (.slice Y))\/(∃z,N=some z/\E.P.underlying X=some (.int .i64)/\F4 E.P e=some z/\E.P.info? e=some i/\i.zero=some zv/\z.cells.length=i.size/\i.bytes<=65536)) :
  ∃t,xc E.P w i zv X u ys.length t/\CV (Ar w (c.bar β s.V)) (Ba ys) t.toArray/\∀y,y∈Ba ys->y.one=true:=by
 rcases B with⟨rfl,Y,hx⟩|⟨z,rfl,hx,hz,hi,hzv,hzl,hby⟩
 ·simp only[Dq]at hs;split at hs
  ·cases hs
  rename_i O;split at hs
  ·rename_i nl l hl;simp at hs;subst hs;unfold AV.asList at hl;split at hl
   ·simp at hl;obtain⟨rfl,rfl⟩:=hl
    cases p with|d _ _ p=>exact VB (E:=E) p hu m hx
   ·simp at hl;obtain⟨rfl,rfl⟩:=hl
    cases p with|ex _ a p=>exact VB (E:=E) p hu m hx
   ·rename_i o g;split at hl
    ·rename_i ety es nl l hg;simp at hl;obtain⟨rfl,rfl⟩:=hl
     cases p with
     |own _ _ δ α =>
      obtain⟨_,ho⟩:=h.objs _ _ _ (AO.get_some hg);generalize hv:β o g=v at ho
      cases ho with|row _ _ _ _ _ ho=>exact iC (E:=E) ho hu m hx
    ·cases hl
   ·exact(O _ _ rfl).elim
   ·rename_i j o g;split at hl
    ·rename_i e1 e2 ζ ix rows hg;have M:=AO.get_some hg;obtain⟨_,ho⟩:=h.objs _ _ _ M;obtain⟨v,hv⟩:∃v,β o g=v:=⟨_,rfl⟩
     cases p with|mref _ _ _ u J hm hu1 =>
     rw[hv]at ho
     cases ho with|mat _ _ _ _ _ _ ho =>
     obtain⟨v0,vs,S,Z,hc,hr,γ⟩:=ho;rw[hv,S]at hm;simp only[Ei,Bn,hX]at hm;obtain⟨hl,ha⟩:=qAF.1 hl;exact iC (E:=E) ((hr j _ u hl hm).2 ha) hu m hx
    ·cases hl
   ·cases hl
  ·cases hs
 ·simp only[Dq]at hs;split at hs
  ·rename_i n;split at hs
   ·rename_i hn;simp at hs;subst hs;obtain⟨rfl,_⟩:=BQ p;obtain⟨i',zv',A,r,ε,U,G,R⟩:=OV hz;rw[hi]at A;simp at A;subst A;rw[hzv]at r;simp at r;subst r;refine⟨_,.inr ⟨hx,by simp;omega,by simp;omega,by omega,rfl,by omega,m⟩,⟨?_,fun q x v L hv=>?_⟩,fun y p=>?_⟩
    ·rw[Bl hu];simp[Builtin.zeroCells,G,hzl]
    ·obtain⟨a1,a2⟩:=H8 hzl m L;obtain⟨u',T,hd⟩:=R w (c.bar β s.V) _ _ a2;have J:q<(i5 n.toNat z).length*zv.cells.size:=by rw[G,hzl,←Bl hu];exact(aa.1 L).1
     have:=Wj J (by omega);simp only[Array.toArray_toList]at hv;rw[hv,G,hzl,T]at this;simp at this;subst this;exact hd
    ·simp only[Ba,eb]at p;obtain⟨q,L,p⟩:=p;rw[oy L]at p;exact U y p
   ·cases hs
  ·cases hs
theorem k9{w':World}{fb:Nat->Prop}{ety es:Nat}{l ys:List D}{b:Nat}{cap:Nat}{cur:Array Value}{e i:List Value}{p:Array Value}(hb:w'.heap[b]?=some (.cells cur ety (0,0)))(m:cur=(e++i).toArray++p)
  (u:cap*es<=cur.size) (A:(l++ys).length<=cap) (hm:cap<=maxLen) (hes:0<es) (n:Cc es l) (t:Cc es ys) (J:∀x c,x∈l->c∈x.cells->c.one=true) (z:∀y,y∈Ba ys->y.one=true)
  (M:e.length=l.length*es) (o:∀(q:Nat) (x:D) (v:Value),(Ba l)[q]?=some x->e[q]?=some v->Ar w' fb x v) (r:∀(q:Nat) (x:D) (v:Value),(Ba ys)[q]?=some x->i[q]?=some v->Ar w' fb x v) (L:i.length=ys.length*es) :
  B3 w' fb ety es false (l++ys) (.slice (some ⟨b,0,none⟩) (l++ys).length cap):=by
 have hu:Cc es (l++ys):=fun x hx=>(kk.1 hx).elim (n x) (t x)
 refine Sa hb A hm u hes hu (fun x c hx hc=>(kk.1 hx).elim (fun h=>J x c h hc) (fun h=>z c (eb.2 ⟨x,h,hc⟩))) fun q x j=>?_
 have B:Ba (l++ys)=Ba l++Ba ys:=by simp[Ba]
 have e1:=Bl n;have e2:=Bl t;rw[B]at j;subst m
 by_cases G:q<(Ba l).length
 ·rw[ax G]at j;obtain⟨v,hv⟩:∃v,e[q]?=some v:=⟨_,cp (by omega)⟩
  refine⟨v,?_,o q x v j hv⟩;rw[no (by simp;omega),c8,ax (by omega)];exact hv
 ·rw[ay (by omega)]at j;have:=(aa.1 j).1;obtain⟨v,hv⟩:∃v,i[q-(Ba l).length]?=some v:=⟨_,cp (by omega)⟩
  refine⟨v,?_,r _ x v j hv⟩;rw[no (by simp;omega),c8,ay (by omega),←hv];congr 1;omega
theorem B3.blk2{w:World}{fb:Nat->Prop}{ety es nil xs v}(h:B3 w fb ety es nil xs v){b:Nat}(hb:A9 v=some b):C4 v b:=by
 rcases h with⟨h1,h2,h3⟩|⟨h1,b,off,cap,cur,h2,h3⟩
 ·subst h3;exact hb
 ·subst h2;exact hb
theorem dg(h:BZ E c β s tm w){t tx ty e:TypeId}{i:TypeInfo}{zv:Value}{X:Option D}(ht:E.P.underlying t=some (.slice e))(hi:E.P.info? e=some i)(Z:i.zero=some zv)(p:0<i.size)(Y:i.bytes<=65536)(α:zv.cells.size=i.size)
 (u:(X=none/\∃e',E.P.underlying tx=some (.slice e'))\/(∃z,X=some z/\E.P.underlying tx=some (.int .i64)/\F4 E.P e=some z/\E.P.info? e=some i/\i.zero=some zv/\z.cells.length=i.size/\i.bytes<=65536))
 {y:AV}{uy:Value}{ys:List D}(hy:AP w (c.bar β s.V) β s.V.cn y uy) (hs:Dq s.V X y=some ys) :
 ∀(l:List D) (a:Option Addr) (sCap:Nat) (m:List Value),Cc i.size ys->Cc i.size l->(∀x c,x∈l->c∈x.cells->c.one=true)->m.length=l.length*i.size ->
  ((a=none/\l.length=0)\/∃ad,a=some ad/\∀(j:Nat) (v:Value),m[j]?=some v->w.cell? (ad.add j)=some v) ->
  (∀(q:Nat) (x:D) (v:Value),(Ba l)[q]?=some x->m[q]?=some v->Ar w (c.bar β s.V) x v)->sCap<l.length+ys.length->l.length+ys.length<=Ch ->
  ∃vo w',(Builtin.append_ #[t,tx] ty #[.slice a l.length sCap,uy]).run E.P w=.ok vo w'/\Below w.heap.size w w'/\vo.oneCell'=true/\(∀b,C4 vo b->w.heap.size<=b/\b<w'.heap.size) /\
   ∀fb',(∀b,b<w.heap.size->fb' b->c.bar β s.V b)->B3 w' fb' e i.size false (l++ys) vo:=by
 intro l a sCap m G U δ B holds L r M;obtain⟨news,O,n,γ⟩:=Qd h (e:=e) (zv:=zv) hy hs G p u;obtain⟨cap,cur,R,ε,T,o⟩:=Ql (P:=E.P) (ty:=ty) ht hi Z Y O B holds r M;have hb:=LH w (.cells cur e);have N:news.length=ys.length*i.size:=by have:=n.1;rw[Bl G]at this;simpa using this
 refine⟨_,_,R,hb,rfl,fun b J=>by simp[C4,A9]at J;subst J;exact⟨az _,by simp⟩,fun fb' S=>?_⟩;have A:(l++ys).length=l.length+ys.length:=by simp
 rw[←A]
 refine k9 (w':=w.drew.alloc (.cells cur e)) (heap_alloc_new w.drew _) o ?_ (by omega) T p U G δ γ B (fun q x v hq hv=>(L q x v hq hv).mono (.of_below hb) S)
  (fun q x v hq hv=>(n.2 q x v hq (by simpa using hv)).mono (.of_below hb) S) N
 rw[o];simp only[y3,rz,z0,size_zeroCells,α,B,N,←r3];exact la _ (by omega)
theorem jK(h:BZ E c β s tm w){t tx ty e:TypeId}{i:TypeInfo}{zv:Value}{zo:Option D}(ht:E.P.underlying t=some (.slice e))(hi:E.P.info? e=some i)(θ:i.zero=some zv)(B:0<i.size)(τ:i.bytes<=65536)(σ:zv.cells.size=i.size)
  (L:(zo=none/\∃e',E.P.underlying tx=some (.slice e'))\/(∃z,zo=some z/\E.P.underlying tx=some (.int .i64)/\F4 E.P e=some z/\E.P.info? e=some i/\i.zero=some zv/\z.cells.length=i.size/\i.bytes<=65536))
  {y:AV}{uy:Value}{ys:List D}(hy:AP w (c.bar β s.V) β s.V.cn y uy) (hs:Dq s.V zo y=some ys)
  {nl:Bool}{l:List D}{R:Value}(hx:B3 w (c.bar β s.V) e i.size nl l R) (υ:∀b,A9 R=some b->c.bar β s.V b) (hne:ys≠[]) (o:Cc i.size ys) (O:l.length+ys.length<=Ch) :
  ∃vo w',(Builtin.append_ #[t,tx] ty #[R,uy]).run E.P w=.ok vo w'/\Hd vo w w'/\vo.oneCell'=true/\(∀b,A9 vo=some b->(w.heap.size<=b\/A9 R=some b)/\b<w'.heap.size)/\C4 vo=(A9 vo=some ·) /\
   ∀fb',(∀b,b<w.heap.size->fb' b->c.bar β s.V b)->B3 w' fb' e i.size false (l++ys) vo:=by
 have grow:=dg h (ty:=ty) ht hi θ B τ σ L hy hs;have blkE:∀{a n m},C4 (.slice a n m)=(A9 (.slice a n m)=some ·):=rfl
 have fin:∀(l:List D),(∃vo w',(Builtin.append_ #[t,tx] ty #[R,uy]).run E.P w=.ok vo w'/\Below w.heap.size w w'/\vo.oneCell'=true/\(∀b,C4 vo b->w.heap.size<=b/\b<w'.heap.size)/\∀fb',(∀b,b<w.heap.size->fb' b->c.bar β s.V b)->B3 w' fb' e i.size false (l++ys) vo) ->
   ∃vo w',(Builtin.append_ #[t,tx] ty #[R,uy]).run E.P w=.ok vo w'/\Hd vo w w'/\vo.oneCell'=true/\(∀b,A9 vo=some b->(w.heap.size<=b\/A9 R=some b)/\b<w'.heap.size)/\C4 vo=(A9 vo=some ·)/\∀fb',(∀b,b<w.heap.size->fb' b->c.bar β s.V b)->B3 w' fb' e i.size false (l++ys) vo:=fun l ⟨vo,w',k1,k2,k3,k4,k5⟩=>by
  have hb:C4 vo=(A9 vo=some ·):=by
   rcases k5 (c.bar β s.V) (fun b _ hb=>hb)with⟨h0,_⟩|⟨_,b,off,cap,cur,h0,_⟩
   ·cases h0
   ·rw[h0];rfl
  exact⟨vo,w',k1,.of_below _ k2,k3,fun b N=>by have:=k4 b (by rw[hb];exact N);exact⟨.inl this.1,this.2⟩,hb,k5⟩
 rcases hx with⟨h1,h2,h3⟩|⟨h1,b,off,cap,cur,h2,h3,h4,h5,h6,h7,h8,h10,h9⟩
 ·subst h2 h3;exact fin [] (grow [] none 0 [] o (by simp[Cc]) (by simp) (by simp) (.inl ⟨rfl,rfl⟩) (by simp[Ba]) (by simpa using r4.2 hne) (by simpa using O))
 ·subst h2
  by_cases A:l.length+ys.length<=cap
  ·
   obtain⟨news,α,r,κ⟩:=Qd h (e:=e) (zv:=zv) hy hs o B L;have μ:news.length=ys.length*i.size:=by have:=r.1;rw[Bl o]at this;simpa using this
   have M:off+l.length*i.size+news.length<=cur.size:=by
    have:(l.length+ys.length)*i.size<=cap*i.size:=la _ A;rw[r3]at this;omega
   have γ:=Qk (P:=E.P) (ty:=ty) ht hi θ α h3 A M (fun v hv=>by
    obtain⟨q,Z⟩:=List.mem_iff_getElem?.1 hv;have G:q<(Ba ys).length:=by rw[Bl o,←μ];exact(aa.1 Z).1
    have ζ:(Ba ys)[q]?=some (Ba ys)[q]:=cp G
    exact(r.2 q _ v ζ (by simpa using Z)).oneCell (κ _ (f0 ζ)))
   have χ:b<w.heap.size:=(r5.1 h3).1;have U:c.bar β s.V b:=υ b rfl;have ρ:(BX cur.toList (off+l.length*i.size) news).length=cur.size:=by rw[DA (by simpa using M)];simp
   have ψ:∀(q:Nat),(BX cur.toList (off+l.length*i.size) news).toArray[q]?=if off+l.length*i.size<=q/\q<off+l.length*i.size+news.length then news[q-(off+l.length*i.size)]? else cur[q]?:=by
    intro q;rw[c8,Dl (by simpa using M)];simp
    by_cases k1:q<off+l.length*i.size
    ·rw[if_pos k1,if_neg (by omega)]
    ·rw[if_neg k1]
     by_cases k2:q<off+l.length*i.size+news.length
     ·rw[if_pos k2,if_pos ⟨by omega,k2⟩]
     ·rw[if_neg k2,if_neg (by omega)]
   have J:Hd (.slice (some ⟨b,off,none⟩) (l.length+ys.length) cap) w (w.setRow b (BX cur.toList (off+l.length*i.size) news).toArray):=Fg rfl;have ι:Aq (c.bar β s.V) w (w.setRow b (BX cur.toList (off+l.length*i.size) news).toArray):=fun k hk φ=>J.block k φ (by simp[C4,A9];rintro rfl;exact hk U)
   refine⟨_,_,γ,J,rfl,fun b' N=>by simp[A9]at N;subst N;exact⟨.inr rfl,by simpa using χ⟩,rfl,fun fb' hf=>.inr ⟨rfl,b,off,cap,(BX cur.toList (off+l.length*i.size) news).toArray,by simp,?_,by simpa using A,h5,by simpa[ρ]using h6,B,fun x hx=>(kk.1 hx).elim (h8 x) (o x),
    fun x cc hx hc=>(kk.1 hx).elim (fun hh=>h10 x cc hh hc) (fun hh=>κ cc (eb.2 ⟨x,hh,hc⟩)),fun p x j cc hp S=>?_⟩⟩
   ·exact setRow_heap w b cur _ e _ h3
   ·have T:j<i.size:=by
     have:=(aa.1 S).1;have h11:x.cells.length=i.size:=(kk.1 (f0 hp)).elim (h8 x) (o x);omega
    rw[ψ]
    by_cases X:p<l.length
    ·rw[ax X]at hp;obtain⟨u,hu,hd⟩:=h9 p x j cc hp S
     have:p*i.size+j<l.length*i.size:=by
      have:(p+1)*i.size<=l.length*i.size:=la _ X;rw[r3]at this;omega
     rw[if_neg (by omega)];exact⟨u,hu,hd.mono ι hf⟩
    ·rw[ay (by omega)]at hp;have hge:l.length*i.size<=p*i.size:=la _ (by omega);have η:=Ip o hp S;have G:=(aa.1 η).1;rw[Bl o]at G;have ω:(p-l.length)*i.size=p*i.size-l.length*i.size:=Nat.sub_mul _ _ _;rw[if_pos (by omega),show off+p*i.size+j-(off+l.length*i.size)=(p-l.length)*i.size+j by omega];have ε:news[(p-l.length)*i.size+j]?=some (news[(p-l.length)*i.size+j]'(by omega)):=cp (by omega);exact⟨_,ε,(r.2 _ _ _ η (by simpa using ε)).mono ι hf⟩
  ·
   have ξ:∀q,q<l.length*i.size->∃v,cur[off+q]?=some v:=fun q Z=>by
    have:l.length*i.size<=cap*i.size:=la _ h4;exact⟨_,j0 (by omega)⟩
   exact fin l (grow l (some ⟨b,off,none⟩) cap ((ro (l.length*i.size)).map fun q=>cur.getD (off+q) undef) o h8 h10 (by simp) (.inr ⟨_,rfl,fun j v S=>by
     have T:j<l.length*i.size:=by have:=(aa.1 S).1;simpa using this
     obtain⟨u,hu⟩:=ξ j T;simp[T,hU,hu]at S;subst S
     rw[Addr.add_lit,CI h3,hu]⟩) (fun q x v Z hv=>by
     have G:q<l.length*i.size:=by rw[←Bl h8];exact(aa.1 Z).1
     have ν:q/i.size<l.length:=x5 (by rw[et];exact G);have hmd:q%i.size<i.size:=na _ B;have hp:l[q/i.size]?=some l[q/i.size]:=cp ν;have X:=h8 _ (f0 hp);have δ:l[q/i.size].cells[q%i.size]?=some (l[q/i.size].cells[q%i.size]'(by omega)):=cp (by omega);have Y:=Ip h8 hp δ;rw[et,i7,Z]at Y;simp at Y;obtain⟨u,hu,hd⟩:=h9 _ _ _ _ hp δ;rw[y1,et,i7]at hu;simp[G,hU,hu]at hv
     subst hv;rw[Y];exact hd) (by omega) O)
theorem eX(h:BZ E c β s tm w){t tx ty e:TypeId}{i:TypeInfo}{zv:Value}{zo:Option D}(ht:E.P.underlying t=some (.slice e))(hi:E.P.info? e=some i)(hzv:i.zero=some zv)(ζ:0<i.size)(χ:i.bytes<=65536)(φ:zv.cells.size=i.size)
  (α:(zo=none/\∃e',E.P.underlying tx=some (.slice e'))\/(∃z,zo=some z/\E.P.underlying tx=some (.int .i64)/\F4 E.P e=some z/\E.P.info? e=some i/\i.zero=some zv/\z.cells.length=i.size/\i.bytes<=65536))
  {y:AV}{uy:Value}{ys:List D}(hy:AP w (c.bar β s.V) β s.V.cn y uy) (hs:Dq s.V zo y=some ys)
  {j o g:Nat}{ux:Value}{e1 e2:Nat}{nl:Bool}{ix:List Nat}{rows:List (Bool×List D)}{x:Bool×List D}(hx:AP w (c.bar β s.V) β s.V.cn (.mref (.row j) o g) ux) (hg:s.V.get o g=some (.mat e1 e2 nl ix rows)) (J:rows[j]?=some x)
  (hes:i.size=1) (hol:o<Cr) (κ:e=e2) (ι:JS x=true) (hne:ys≠[]) (σ:Cc i.size ys) (η:x.2.length+ys.length<=Ch)
  (hK:K (.mref (.row rows.length) o g) (.keep o g (.mat e1 e2 nl ix (rows.set j (false,[])++[(false,x.2++ys)])))):JU E c s tm K ((Builtin.append_ #[t,tx] ty #[ux,uy]).run E.P w):=by
 subst κ;have S:=AO.get_some hg;obtain⟨δ,ho⟩:=h.objs _ _ _ S
 cases hx with|mref _ _ _ ux _ hm hux1 =>
 obtain⟨v,hv⟩:∃v,β o g=v:=⟨_,rfl⟩
 rw[hv]at ho
 cases ho with|mat _ _ _ _ _ _ ho =>
 obtain⟨X,vs,ω,T,h0,hr,Y⟩:=ho;have N:=hv;rw[ω]at N;rw[N]at hm;simp only[Ei,Bn,hX]at hm;have ν:=(hr j x ux J hm).2 ι;rw[←hes]at ν;have r:∀{j u b},(X::vs)[j]?=some u->A9 u=some b->C4 (β o g) b:=fun {j u b} hj hb=>by rw[N];exact⟨j,u,by rw[Bn];exact hj,hb⟩
 obtain⟨vo,w',k1,k2,k3,k4,k6,k5⟩:=jK h (ty:=ty) ht hi hzv ζ χ φ α hy hs ν (fun b hb=>.inr ⟨o,g,_,S,r (j:=j+1) (by simpa using hm) hb⟩) hne σ η;have ε:j<rows.length:=(aa.1 J).1
 have G:∀{q u b},(X::vs)[q]?=some u->OT rows q->q≠j+1->A9 u=some b->b<w.heap.size/\A9 vo≠some b:=fun {q u b} L U M hb=>by
  have h1:=(h.home _ _ _ b S (r L hb)).1;refine⟨h1,fun Z=>?_⟩;rcases(k4 b Z).1 with h2|h2
  ·omega
  ·exact M (Y q (j+1) u ux b L (by simpa using hm) U (L3 J ι) hb h2)
 have A:∀{b},b<w.heap.size/\A9 vo≠some b->w'.heap[b]?=w.heap[b]?:=fun {b} hb=>k2.block b hb.1 (by rw[k6];exact hb.2)
 have O:Hd (.tuple (X::vs).toArray) w w':=⟨k2.os,k2.tape,k2.output,k2.size,fun k hk hn=>A ⟨hk,fun Z=>by
  rcases(k4 k Z).1 with h2|h2
  ·omega
  ·exact hn ⟨j+1,ux,by rw[Bn];simpa using hm,h2⟩⟩⟩
 have hst:Aq (c.bar β s.V) w w':=fun b hn δ=>O.block b δ fun hb=>hn (.inr ⟨o,g,_,S,by rw[N];exact hb⟩)
 have n:∀{q},q≠vs.length+1->OT (rows.set j (false,[])++[(false,x.2++ys)]) q->OT rows q/\q≠j+1:=fun {q} L U=>by
  have h1:OT (rows.set j (false,[])) q:=U.left;refine⟨h1.unset J fun hh=>by simp[JS]at hh,fun M=>?_⟩;subst M;have:=h1.of (qAA ε);simp[JS]at this
 have B:∀{q u},(X::(vs++[vo]))[q]?=some u->((X::vs)[q]?=some u/\q≠vs.length+1)\/(q=vs.length+1/\u=vo):=fun {q u} L=>by
  rw[←s7]at L
  by_cases R:q<(X::vs).length
  ·rw[ax R]at L;exact .inl ⟨L,by simp at R;omega⟩
  ·rw[ay (by omega)]at L;have:=(aa.1 L).1;simp at this R;have ρ:q=vs.length+1:=by omega
   subst ρ;simp at L;exact .inr ⟨rfl,L.symm⟩
 have ξ:=h.extend (l:=X::vs) (us:=[vo]) (x:=.mat e1 e nl ix (rows.set j (false,[])++[(false,x.2++ys)])) S hol N O (fun b u hu hb=>by
  simp at hu;subst hu
  exact⟨(k4 b hb).1.imp_right fun h2=>r (j:=j+1) (by simpa using hm) h2,(k4 b hb).2⟩) fun β' fb' hf=>by
   rw[s7];refine .mat _ _ _ _ _ _ ⟨X,vs++[vo],rfl,by simp[T],?_,fun q y u m hu=>?_,fun a a' u u' b U τ al al' hu γ=>?_⟩
   ·rcases h0 with h0|⟨ψ,b,off,cap,cur,h2,h3,h4,h5,h6,h7⟩
    ·exact .inl h0
    ·refine .inr ⟨ψ,b,off,cap,cur,h2,?_,h4,h5,h6,fun p q hp=>?_⟩
     ·rw[A (G (q:=0) rfl WP (by omega) (by rw[h2];rfl))];exact h3
     ·obtain⟨u,μ,υ⟩:=h7 p q hp;exact⟨u,by rw[ax (aa.1 μ).1];exact μ,υ⟩
   ·rcases B (q:=q+1) (by simpa using hu)with⟨hu,R⟩|⟨R,rfl⟩
    ·simp only[hX]at hu;rw[ax (by have:=(aa.1 hu).1;simp;omega)]at m
     by_cases M:q=j
     ·subst M;rw[qAA ε]at m;simp at m;subst m;exact⟨by rw[hm]at hu;simp at hu;subst hu;exact hux1,fun U=>by simp[JS]at U⟩
     ·rw[List.getElem?_set_ne (Ne.symm M)]at m;refine⟨(hr q y u m hu).1,fun U=>?_⟩;have θ:=(hr q y u m hu).2 U;exact θ.mono hst hf fun b hb _=>A (G (q:=q+1) (by simpa using hu) (L3 m U) (by omega) (θ.blk hb))
    ·have L:q=rows.length:=by omega
     subst L;rw[ay (by simp)]at m;simp at m;subst m;exact⟨k3,fun _=>by have:=k5 fb' hf;rw[hes]at this;exact this⟩
   ·rcases B U with⟨h1,h2⟩|⟨rfl,rfl⟩<;>rcases B τ with⟨h3,h4⟩|⟨rfl,rfl⟩
    ·exact Y a a' u u' b h1 h3 (n h2 al).1 (n h4 al').1 hu γ
    ·exact absurd γ (G h1 (n h2 al).1 (n h2 al).2 hu).2
    ·exact absurd hu (G h3 (n h4 al').1 (n h4 al').2 γ).2
    ·rfl
 refine⟨vo,w',_,_,_,k1,hK,ξ,.mref _ _ _ _ (by simpa[AO.app]using δ) ?_ k3⟩;rw[BM];simp only[Ei];rw[s7,Bn,hX,←T];simp
theorem eY(h:BZ E c β s tm w){t tx ty e:TypeId}{i:TypeInfo}{zv:Value}{zo:Option D}{own:Bool}{dst:Option Nat}(ht:E.P.underlying t=some (.slice e))(hi:E.P.info? e=some i)(hzv:i.zero=some zv)(hpos:0<i.size)(hby:i.bytes<=65536)(hzs:zv.cells.size=i.size)
  (η:(zo=none/\∃e',E.P.underlying tx=some (.slice e'))\/(∃z,zo=some z/\E.P.underlying tx=some (.int .i64)/\F4 E.P e=some z/\E.P.info? e=some i/\i.zero=some zv/\z.cells.length=i.size/\i.bytes<=65536))
  {k:MK}{o g:Nat}{y:AV}{ux uy:Value}(hx:AP w (c.bar β s.V) β s.V.cn (.mref k o g) ux) (hy:AP w (c.bar β s.V) β s.V.cn y uy) (he:ev E dst s.V (.app e i.size zo own) [.mref k o g,y] K) :
  JU E c s tm K ((Builtin.append_ #[t,tx] ty #[ux,uy]).run E.P w):=by
 unfold ev at he;simp only at he;split at he
 ·rename_i e1 e2 nl ix rows q p hg;split at he
  ·rename_i e2' es2 ξ l2 hg2;obtain⟨hz,hol,hql,ω,he1,γ,he2,he3,hlen,hK⟩:=he
   replace he3:=he3.symm
   subst hz he1 he2 he3
   have hxt:∃e',E.P.underlying tx=some (.slice e'):=by
    rcases η with⟨_,hh⟩|⟨z,hh,_⟩
    ·exact hh
    ·cases hh
   obtain⟨e',hxt⟩:=hxt;have S:=AO.get_some hg;have Z:=AO.get_some hg2;obtain⟨hlt,ho⟩:=h.objs _ _ _ S;obtain⟨hlt2,T⟩:=h.objs _ _ _ Z
   cases hx with|mref _ _ _ ux _ hm hux1 =>
   cases hy with|ablk _ _ _ b1 base1 vs1 _ hb1 hne1 h11 hc1 hv1 huy =>
   subst huy;have hcq:=hc1 0 _ rfl;have hrq:=hv1 0 _ rfl;obtain⟨A,huq⟩:∃A,vs1 0=A:=⟨_,rfl⟩
   rw[huq]at hcq hrq;obtain⟨vq,τ⟩:∃vq,β q p=vq:=⟨_,rfl⟩
   have hquq:A=vq/\vq.oneCell'=true:=by cases hrq with|own _ _ _ h1=>exact⟨τ,τ▸h1⟩
   obtain⟨rfl,υ⟩:=hquq;rw[τ]at T
   cases T with|row _ _ _ _ _ T =>
   obtain⟨v,hv⟩:∃v,β o g=v:=⟨_,rfl⟩
   rw[hv]at ho
   cases ho with|mat _ _ _ _ _ _ ho =>
   obtain⟨v0,vs,hvv,X,h0,hr,φ⟩:=ho;have ν:=hv;rw[hvv]at ν;rw[ν]at hm;simp only[Ei,Bn,uk,Option.some.injEq]at hm
   replace hm:=hm.symm
   subst hm
   have χ:xc E.P w i zv tx (.slice (some ⟨b1,base1,none⟩) 1 1) 1 [A]:=.inl ⟨e',hxt,.inr ⟨_,1,rfl,by simp[γ],fun j v l=>by
    cases j with
    |zero=>simp at l;subst l;rw[Addr.add_lit];exact hcq
    |succ j=>simp at l⟩⟩
   have m:∀{j u b},vs[j]?=some u->A9 u=some b->C4 (β o g) b:=fun {j u b} l hb=>by rw[ν];exact⟨j+1,u,by simpa using l,hb⟩
   have N:∀{b},A9 A=some b->C4 (β q p) b:=fun {b} hb=>by rw[τ];exact T.blk2 hb
   have hrowx:∀{j u},vs[j]?=some u->∃x,rows[j]?=some x:=fun {j u} l=>⟨_,cp (by have:=(aa.1 l).1;omega)⟩
   have fin:∀(vo:Value) (w':World),(Builtin.append_ #[t,tx] ty #[ux,.slice (some ⟨b1,base1,none⟩) 1 1]).run E.P w=.ok vo w'->vo.oneCell'=true->Hd (.tuple (vo::(vs++[A])).toArray) w w' ->
     (∀b,A9 vo=some b->b<w'.heap.size/\(w.heap.size<=b\/A9 ux=some b)) ->
     (∀k,k<w.heap.size->A9 vo≠some k->w'.heap[k]?=w.heap[k]?) ->
     (∃b off cap cur,vo=.slice (some ⟨b,off,none⟩) (ix.length+1) cap/\w'.heap[b]?=some (.cells cur e (0,0))/\ix.length+1<=cap/\cap<=maxLen/\off+cap<=cur.size /\
      (∀(p j:Nat),ix[p]?=some j->∃u,vs[j]?=some u/\cur[off+p]?=some u)/\cur[off+ix.length]?=some A) ->
     JU E c s tm K ((Builtin.append_ #[t,tx] ty #[ux,.slice (some ⟨b1,base1,none⟩) 1 1]).run E.P w):=by
    intro vo w' n hone L σ O hcells;have μ:∀{b},A9 ux=some b->C4 (β o g) b:=fun {b} hb=>by rw[ν];exact⟨0,_,by rw[Bn];rfl,hb⟩
    have M:∀{b},C4 (β o g) b->A9 A=some b->False:=fun {b} hb hq=>ω (h.sep _ _ _ _ _ _ b S Z hb (N hq))
    have R:∀{j u},(vo::(vs++[A]))[j]?=some u->(j=0/\u=vo)\/(∃j',j=j'+1/\vs[j']?=some u)\/(j=vs.length+1/\u=A):=fun {j u} l=>by
     cases j with
     |zero=>simp at l;exact .inl ⟨rfl,l.symm⟩
     |succ j =>
      simp only[hX]at l
      by_cases δ:j<vs.length
      ·rw[ax δ]at l;exact .inr (.inl ⟨j,rfl,l⟩)
      ·rw[ay (by omega)]at l;have:=(aa.1 l).1;simp at this;have hjj:j=vs.length:=by omega
       subst hjj;simp at l;exact .inr (.inr ⟨rfl,l.symm⟩)
    have hblk:∀{b},C4 (.tuple (vo::(vs++[A])).toArray) b->A9 vo=some b\/(∃j u,vs[j]?=some u/\A9 u=some b)\/A9 A=some b:=fun {b} hb=>by
     obtain⟨j,u,l,hu⟩:=hb;rw[Bn]at l;rcases R l with⟨_,rfl⟩|⟨j',_,hj'⟩|⟨_,rfl⟩
     ·exact .inl hu
     ·exact .inr (.inl ⟨j',u,hj',hu⟩)
     ·exact .inr (.inr hu)
    have ρ:∀{j u b},vs[j]?=some u->OT rows (j+1)->A9 u=some b->b<w.heap.size/\A9 vo≠some b:=fun {j u b} l ha hu=>by
     have h1:=(h.home _ _ _ b S (m l hu)).1;refine⟨h1,fun ζ=>?_⟩;rcases(σ b ζ).2 with h2|h2
     ·omega
     ·have:=φ 0 (j+1) _ u b rfl (by simpa using l) WP ha h2 hu;omega
    have κ:∀{b},A9 A=some b->b<w.heap.size/\A9 vo≠some b:=fun {b} hu=>by
     have h1:=(h.home _ _ _ b Z (N hu)).1;refine⟨h1,fun ζ=>?_⟩;rcases(σ b ζ).2 with h2|h2
     ·omega
     ·exact M (μ h2) hu
    have hst:Aq (c.bar β s.V) w w':=fun b hn hlt=>by
     refine O b hlt fun ζ=>?_
     rcases(σ b ζ).2 with h2|h2
     ·omega
     ·exact hn (.inr ⟨o,g,_,S,μ h2⟩)
    have hrel1:=h.fresh2 (o:=o) q (x:=.mat e e2 false (ix++[rows.length]) (rows++[(ξ,l2)])) (vo:=.tuple (vo::(vs++[A])).toArray) hol L (fun b hb=>by
     rcases hblk hb with hb|⟨j,u,l,hb⟩|hb
     ·obtain⟨k1,k2⟩:=σ b hb;refine⟨k1,k2.imp_right fun k2=>⟨o,g,_,.inl rfl,S,μ k2⟩⟩
     ·exact⟨lb (h.home _ _ _ b S (m l hb)).1 L.size,.inr ⟨o,g,_,.inl rfl,S,m l hb⟩⟩
     ·exact⟨lb (κ hb).1 L.size,.inr ⟨q,p,_,.inr rfl,Z,N hb⟩⟩) (fun β' fb' _ _ hf=>by
     refine .mat _ _ _ _ _ _ ⟨vo,vs++[A],rfl,by simp[X],.inr ⟨rfl,?_⟩,fun j x u hx hu=>?_,fun a a' u u' b ha ha' al al' hu U=>?_⟩
     ·obtain⟨b,off,cap,cur,k1,k2,k3,k4,k5,k6,k7⟩:=hcells;refine⟨b,off,cap,cur,by rw[k1];simp,k2,by simpa using k3,k4,k5,fun p' j hp=>?_⟩
      by_cases ε:p' < ix.length
      ·rw[ax ε]at hp;obtain⟨u,G,B⟩:=k6 p' j hp;exact⟨u,by rw[ax (aa.1 G).1];exact G,B⟩
      ·rw[ay (by omega)]at hp;have:=(aa.1 hp).1;simp at this;have hpp:p'=ix.length:=by omega
       subst hpp;simp at hp;subst hp;exact⟨A,by rw[←X];simp,k7⟩
     ·by_cases δ:j<vs.length
      ·rw[ax δ]at hu;rw[ax (by omega)]at hx;refine⟨(hr j x u hx hu).1,fun ha=>?_⟩;have J:=(hr j x u hx hu).2 ha;exact J.mono hst hf fun b hb _=>O b (ρ hu (L3 hx ha) (J.blk hb)).1 (ρ hu (L3 hx ha) (J.blk hb)).2
      ·rw[ay (by omega)]at hu;rw[ay (by omega)]at hx;have:=(aa.1 hu).1;simp at this;have hjj:j=vs.length:=by omega
       subst hjj;simp at hu;subst hu;rw[X]at hx;simp at hx;subst hx;exact⟨υ,fun _=>T.mono hst hf fun b hb _=>O b (κ (T.blk hb)).1 (κ (T.blk hb)).2⟩
     ·rcases R ha with⟨rfl,rfl⟩|⟨j,rfl,l⟩|⟨rfl,rfl⟩<;>rcases R ha' with⟨rfl,rfl⟩|⟨j',rfl,hj'⟩|⟨rfl,rfl⟩
      ·rfl
      ·exact absurd hu (ρ hj' al'.left U).2
      ·exact absurd hu (κ U).2
      ·exact absurd U (ρ l al.left hu).2
      ·exact φ (j+1) (j'+1) u u' b (by simpa using l) (by simpa using hj') al.left al'.left hu U
      ·exact(M (m l hu) U).elim
      ·exact absurd U (κ hu).2
      ·exact(M (m hj' U) hu).elim
      ·rfl)
    have ψ:=hrel1.fresh (o:=q) (x:=.row e2 1 true []) hql (vo:=.slice none 0 0) (w':=w') (Hd.of_below _ (Below.refl _ _)) (fun b hb=>by simp[C4,A9]at hb) fun β' fb' _ _ _=>.row _ _ _ _ _ (.inl ⟨rfl,rfl,rfl⟩)
    have hV:(AO.app (AO.app (AO.mk (CB s.V.ob q none) s.V.cn) (.fresh o (.mat e e2 false (ix++[rows.length]) (rows++[(ξ,l2)])))) (.fresh q (.row e2 1 true [])))=s.V.app (.seq (.fresh o (.mat e e2 false (ix++[rows.length]) (rows++[(ξ,l2)]))) (.fresh q (.row e2 1 true []))):=by
     simp only[AO.app];congr 1;funext z
     by_cases h1:z=q<;>by_cases h2:z=o<;>simp[CB,h1,h2]
    refine⟨vo,w',_,_,_,n,hK,hV▸ψ,?_⟩;refine .mref _ _ _ _ (by simp[AO.app,CB,ω]) ?_ hone;have hne:¬(o=q/\s.V.cn o=(AO.app (AO.mk (CB s.V.ob q none) s.V.cn) (.fresh o (.mat e e2 false (ix++[rows.length]) (rows++[(ξ,l2)])))).cn q):=fun hh=>ω hh.1
    simp only[Eh,hne,if_false];simp[Ei]
   have grow:∀(a:Option Addr) (sCap:Nat) (α:List Value),ux=.slice a ix.length sCap->α.length=ix.length*i.size->((a=none/\ix.length=0)\/∃ad,a=some ad/\∀(j:Nat) (v:Value),α[j]?=some v->w.cell? (ad.add j)=some v) ->
     sCap<ix.length+1->(∀(p j:Nat),ix[p]?=some j->∃u,vs[j]?=some u/\α[p]?=some u)->JU E c s tm K ((Builtin.append_ #[t,tx] ty #[ux,.slice (some ⟨b1,base1,none⟩) 1 1]).run E.P w):=by
    intro a sCap α μ Y holds r hcont;obtain⟨cap,cur,n,hc1,hc2,θ⟩:=Ql (P:=E.P) (ty:=ty) ht hi hzv hby χ Y holds r hlen;rw[←μ]at n;have hbe:=LH w (.cells cur e);rw[γ,uv]at Y
    have hcsz:cur.size=cap:=by
     rw[θ];simp only[y3,rz,z0,size_zeroCells,hzs,Y,γ,uv,wn,pv];omega
    refine fin _ _ n rfl (.of_below _ hbe) (fun b hb=>?_) (fun k hk _=>hbe.block k hk) ⟨w.heap.size,0,cap,cur,rfl,heap_alloc_new w.drew _,hc1,hc2,by omega,fun p' j hp=>?_,?_⟩
    ·simp[A9]at hb;subst hb;exact⟨by simp,.inl (az _)⟩
    ·obtain⟨u,G,B⟩:=hcont p' j hp;refine⟨u,G,?_⟩;have ε:=(aa.1 B).1;rw[θ,q7,no (by simp;omega),c8,ax ε];exact B
    ·rw[θ,q7,no (by simp;omega),c8,ay (by omega),Y];simp
   rcases h0 with⟨h01,h02,h03⟩|⟨h01,b,off,cap,cur,h2,h3,h4,h5,h6,h7⟩
   ·subst h02 h03;exact grow none 0 [] rfl (by simp) (.inl ⟨rfl,rfl⟩) (by simp) (fun p' j hp=>by simp at hp)
   ·by_cases r:ix.length+1<=cap
    ·subst h2;have n:=Qk (P:=E.P) (ty:=ty) (b:=b) (off:=off) (sLen:=ix.length) (sCap:=cap) ht hi hzv χ h3 r (by rw[γ];simp;omega) (fun v hv=>by simp at hv;subst hv;exact υ);rw[γ,uv]at n;have ι:off+ix.length+[A].length<=cur.toList.length:=by simp;omega
     refine fin _ _ n rfl (Fg ⟨0,_,by rw[Bn];rfl,rfl⟩) (fun b' hb=>?_) (fun k hk hne=>setRow_other w b k _ fun hkb=>hne (by rw[hkb];rfl)) ⟨b,off,cap,(BX cur.toList (off+ix.length) [A]).toArray,rfl,setRow_heap w b cur _ _ _ h3,r,h5,?_,fun p' j hp=>?_,?_⟩
     ·simp[A9]at hb;subst hb;exact⟨by have:=(r5.1 h3).1;simpa[World.setRow]using this,.inr rfl⟩
     ·rw[rz,DA ι];simpa using h6
     ·obtain⟨u,G,B⟩:=h7 p' j hp;have ε:=(aa.1 hp).1;refine⟨u,G,?_⟩;rw[c8,Dl ι,if_pos (by omega)];simpa using B
     ·rw[c8,Dl ι,if_neg (by omega),if_pos (by simp)];simp
    ·have hcs:∀q,q<ix.length->∃v,cur[off+q]?=some v:=fun q hq=>⟨_,j0 (by omega)⟩
     refine grow (some ⟨b,off,none⟩) cap ((ro ix.length).map fun q=>cur.getD (off+q) undef) h2 (by simp[γ]) (.inr ⟨_,rfl,fun j v l=>?_⟩) (by omega) (fun p' j hp=>?_)
     ·have δ:j<ix.length:=by have:=(aa.1 l).1;simpa using this
      obtain⟨u,hu⟩:=hcs j δ;simp[δ,hU,hu]at l;subst l;rw[Addr.add_lit,CI h3,hu]
     ·obtain⟨u,G,B⟩:=h7 p' j hp;have ε:=(aa.1 hp).1;exact⟨u,G,by simp[ε,hU,B]⟩
  ·exact he.elim
 ·rename_i j e1 e2 nl ix rows hg;split at he
  ·rename_i x ys J hs;obtain⟨h1,h2,h3,h4,h5,h6,h7,hK⟩:=he;exact eX h ht hi hzv hpos hby hzs η hy hs hx hg J h1 h2 h3 h4 h5 h6 h7 hK
  ·exact he.elim
 ·exact he.elim
theorem XV(h:BZ E c β s tm w){t tx ty e:TypeId}{i:TypeInfo}{zv:Value}{zo:Option D}{own:Bool}{dst:Option Nat}(ht:E.P.underlying t=some (.slice e))(hi:E.P.info? e=some i)(B:i.zero=some zv)(p:0<i.size)(T:i.bytes<=65536)(S:zv.cells.size=i.size)
  (n:(zo=none/\∃e',E.P.underlying tx=some (.slice e'))\/(∃z,zo=some z/\E.P.underlying tx=some (.int .i64)/\F4 E.P e=some z/\E.P.info? e=some i/\i.zero=some zv/\z.cells.length=i.size/\i.bytes<=65536))
  {x y:AV}{ux uy:Value}(hx:AP w (c.bar β s.V) β s.V.cn x ux) (Y:AP w (c.bar β s.V) β s.V.cn y uy) (m:ev E dst s.V (.app e i.size zo own) [x,y] K) :
  JU E c s tm K ((Builtin.append_ #[t,tx] ty #[ux,uy]).run E.P w):=by
 have R:(∃k o g,x=.mref k o g)\/∀k o g,x≠.mref k o g:=by cases x<;>simp
 rcases R with⟨k,o,g,rfl⟩|R
 ·exact eY h ht hi B p T S n hx Y m
 unfold ev at m;simp only[R]at m;split at m
 ·exact m.elim
 rename_i ys hs;have grow:=dg h (ty:=ty) ht hi B p T S n Y hs
 have nilgrow:Cc i.size ys->ys.length<=Ch->ys≠[]->∃vo w',(Builtin.append_ #[t,tx] ty #[.slice none 0 0,uy]).run E.P w=.ok vo w'/\Below w.heap.size w w'/\vo.oneCell'=true/\(∀b,C4 vo b->w.heap.size<=b/\b<w'.heap.size) /\
    ∀fb',(∀b,b<w.heap.size->fb' b->c.bar β s.V b)->B3 w' fb' e i.size false ys vo:=by
  intro A r hne;have hp:0<ys.length:=r4.2 hne;have:=grow [] none 0 [] A (by simp[Cc]) (by simp) (by simp) (.inl ⟨rfl,rfl⟩) (by simp[Ba]) (by simpa using hp) (by simpa using r);simpa using this
 have nilzero:ys=[]->(Builtin.append_ #[t,tx] ty #[.slice none 0 0,uy]).run E.P w=.ok (.slice none 0 0) w:=by
  intro hne;subst hne;obtain⟨news,u,_,_⟩:=Qd h (e:=e) (zv:=zv) Y hs (by simp[Cc]) p n;exact(Lh (P:=E.P) (ty:=ty) ht hi B u (a:=none) (az 0)).1
 split at m
 ·
  rename_i o g;split at m
  ·rename_i ety' es' nl l hg;obtain⟨J,rfl,rfl,A,r,m⟩:=m
   cases hx with
   |own _ _ ι θ =>
    obtain⟨_,ho⟩:=h.objs _ _ _ (AO.get_some hg);have γ:∃v,β o g=v:=⟨_,rfl⟩
    obtain⟨v,hv⟩:=γ;rw[hv]at ho ⊢
    cases ho with
    |row _ _ _ _ _ ho =>
     by_cases hne:ys=[]
     ·subst hne;obtain⟨news,u,_,_⟩:=Qd h (e:=e) (zv:=zv) Y hs (by simp[Cc]) p n
      have hb:∃a cap,v=.slice a l.length cap/\l.length<=cap:=by
       rcases ho with⟨_,h2,h3⟩|⟨_,b,off,cap,cur,h2,_,h4,_⟩
       ·subst h2;exact⟨_,_,h3,az _⟩
       ·exact⟨_,_,h2,h4⟩
      obtain⟨a,cap,Z,δ⟩:=hb;have N:=(Lh (P:=E.P) (ty:=ty) ht hi B u (a:=a) δ).1;rw[←Z]at N;simp only[List.isEmpty_nil,Bool.and_true,ra]at m;have α:∀b,C4 v b->C4 (β o g) b:=fun b hb=>by rw[hv];exact hb
      have L:=h.fresh (o:=o) (x:=.row e i.size nl l) J (vo:=v) (w':=w) (Hd.refl _ _) (fun b hb=>⟨(h.home _ _ _ b (AO.get_some hg) (α b hb)).1,.inr ⟨g,_,AO.get_some hg,α b hb⟩⟩) (fun β' fb' _ _ hf=>.row _ _ _ _ _ (ho.mono (Aq.refl _ _) hf fun _ _ _=>rfl));exact⟨_,_,_,_,_,N,m,L,AP.own_new (by rw[Z];rfl) (G1 _ _ _)⟩
     ·obtain⟨vo,w',k1,k2,k3,M,k6,X⟩:=jK h (ty:=ty) ht hi B p T S n Y hs ho (fun b hb=>.inr ⟨o,g,_,AO.get_some hg,by rw[hv];exact ho.blk2 hb⟩) hne A r;have O:ys.isEmpty=false:=by cases ys<;>simp_all
      rw[O,Bool.and_false]at m
      have L:=h.fresh (o:=o) (x:=.row e i.size false (l++ys)) J (vo:=vo) k2 (fun b hb=>by
       rw[k6]at hb
       exact⟨(M b hb).2,(M b hb).1.imp_right fun hb=>⟨g,_,AO.get_some hg,by rw[hv];exact ho.blk2 hb⟩⟩) (fun β' fb' _ _ hf=>.row _ _ _ _ _ (X fb' hf))
      exact⟨_,_,_,_,_,k1,m,L,AP.own_new k3 (G1 _ _ _)⟩
  ·exact m.elim
 ·
  obtain⟨A,r,m⟩:=m
  cases hx with
  |d _ _ hx =>
   have η:ux=.slice none 0 0:=by cases hx;rfl
   subst η
   by_cases hne:ys=[]
   ·have N:=nilzero hne;subst hne;split at m
    ·split at m
     ·rename_i t';obtain⟨β',h5,h6⟩:=K6 h (t:=t') m.1 (da w) (ety:=e) (es:=i.size) (nl:=true) (l:=[]) (vo:=.slice none 0 0) rfl (fun b hb=>by simp[C4,A9]at hb) fun fb' _=>.inl ⟨rfl,rfl,rfl⟩
      exact⟨_,_,_,_,β',N,m.2,h5,h6⟩
     ·exact m.elim
    ·exact CP h m N (.d _ _ .nil)
   ·obtain⟨vo,w',k1,k2,k3,M,X⟩:=nilgrow A r hne;have O:ys.isEmpty=false:=by cases ys<;>simp_all
    rw[O]at m;split at m
    ·split at m
     ·rename_i t';obtain⟨β',h5,h6⟩:=K6 h (t:=t') m.1 k2 k3 M X;exact⟨_,_,_,_,β',k1,m.2,h5,h6⟩
     ·exact m.elim
    ·refine⟨_,_,_,.none,β,k1,m,h.grow k2,.d _ _ (Cq (X _ fun b _ hb=>hb) fun b hb G=>?_)⟩;have:=JQ h G;have:=(M b hb).1;omega
 ·
  rename_i l;obtain⟨hu,r,m⟩:=m;have U:Cc i.size l:=fun x hx=>hu x (by simp[hx])
  have A:Cc i.size ys:=fun x hx=>hu x (by simp[hx])
  cases hx with
  |ex _ a hx =>
   by_cases hne:ys=[]
   ·subst hne;obtain⟨news,u,_,_⟩:=Qd h (e:=e) (zv:=zv) Y hs (by simp[Cc]) p n;have N:=(Lh (P:=E.P) (ty:=ty) ht hi B u (a:=some a) (az l.length)).1;split at m
    ·split at m
     ·exact CP h m N (.ex _ a hx)
     ·exact m.elim
    ·simp only[ra]at m;exact CP h m N (.d _ _ hx)
   ·have κ:0<ys.length:=r4.2 hne;obtain⟨olds,ε,J,ζ⟩:=VB (E:=E) (tx:=t) (z:=zv) hx U p ht;have hlo:olds.length=l.length*i.size:=by have:=J.1;rw[Bl U]at this;simpa using this
    have hcells:∀(j:Nat) (v:Value),olds[j]?=some v->w.cell? (a.add j)=some v:=by
     rcases ε with⟨e',_,⟨h1,_,_⟩|⟨a',cap,h1,_,h2⟩⟩|⟨_,h1,_⟩
     ·cases h1
     ·simp at h1;obtain⟨rfl,_⟩:=h1;exact h2
     ·cases h1
    obtain⟨vo,w',k1,k2,k3,M,X⟩:=grow l (some a) l.length olds A U (fun x cc hx hc=>ζ cc (eb.2 ⟨x,hx,hc⟩)) hlo (.inr ⟨a,rfl,hcells⟩) (fun q x v hq hv=>J.2 q x v hq (by simpa using hv)) (by omega) r;split at m
    ·split at m
     ·rename_i t';split at m
      ·exact absurd rfl hne
      ·obtain⟨β',h5,h6⟩:=K6 h (t:=t') m.1 k2 k3 M X;exact⟨_,_,_,_,β',k1,m.2,h5,h6⟩
     ·exact m.elim
    ·refine⟨_,_,_,.none,β,k1,m,h.grow k2,.d _ _ (Cq (X _ fun b _ hb=>hb) fun b hb G=>?_)⟩;have:=JQ h G;have:=(M b hb).1;omega
 ·exact m.elim
end
end Go.Pw
end
section
namespace Go.Pw
open Go.RowKit
theorem Gm(ρ:Ren):∀l:List AV,AV.ren.renL ρ l=Ax (AV.ren ρ) l
 |[]=>rfl
 |x::xs=>by simp only[AV.ren.renL,Ax,Gm ρ xs];cases x.ren ρ with
  |none=>rfl
  |some y=>cases Ax (AV.ren ρ) xs<;>rfl
theorem OX{ρ:Ren}{x y:AV}(h:x.ren ρ=some y):y.one=x.one:=by
 cases x<;>(try simp only[AV.ren]at h)<;>first
  |(cases h;done)
  |(split at h<;>simp at h<;>subst h<;>rfl)
  |(simp at h;subst h;rfl)
  |(simp at h;done)
theorem AP.ren{w:World}{fb fb':Nat->Prop}{β β':Nat->Nat->Value}{cn cn':Nat->Nat}{ρ:Ren}(A:∀b,b<w.heap.size->fb' b->fb b)
  (hn:∀o g q,ρ.get o g=some q->β' q.1 q.2=β o g/\q.2<cn' q.1) {x:AV}{v:Value}(h:AP w fb β cn x v):∀{y:AV},x.ren ρ=some y->AP w fb' β' cn' y v:=by
 induction h with
 |d x v h=>intro y e;simp[AV.ren]at e;subst e;exact .d x v (h.mono (Aq.refl _ _) A)
 |ex xs a h=>intro y e;simp[AV.ren]at e;subst e;exact .ex xs a (h.mono (Aq.refl _ _) A)
 |agg cs vs hl h1 h ih =>
  intro y e;simp only[AV.ren]at e;split at e
  ·rename_i l m;simp at e;subst e;rw[Gm]at m;refine .agg l vs (by rw[Af m];exact hl) (fun y e=>?_) (fun i y v e hv=>?_)
   ·obtain⟨x,hx,p⟩:=D5 m e;rw[OX p];exact h1 x hx
   ·obtain⟨x,hx,p⟩:=BC m e;exact ih i x v hx hv p
  ·cases e
 |ptr o g off b hg h =>
  intro y e;simp only[AV.ren]at e;split at e
  ·rename_i q r;simp at e;subst e;exact .ptr _ _ _ b (hn o g q r).2 ((hn o g q r).1.trans h)
  ·cases e
 |rptr o g es i off b b0 n cap hg h =>
  intro y e;simp only[AV.ren]at e;split at e
  ·rename_i q r;simp at e;subst e;exact .rptr _ _ _ _ _ b b0 n cap (hn o g q r).2 ((hn o g q r).1.trans h)
  ·cases e
 |dptr cs off b base vs hb hne h1 hc hv =>
  intro y e;simp[AV.ren]at e;subst e
  cases cs with
  |nil=>exact absurd rfl hne
  |cons z zs =>
   have t:b<w.heap.size:=CH (hc 0 z (by simp));exact .dptr _ off b base vs (fun hh=>hb (A b t hh)) hne h1 hc (fun j c h1=>(hv j c h1).mono (Aq.refl _ _) A)
 |own o g hg h1 =>
  intro y e;simp only[AV.ren]at e;split at e
  ·rename_i q r;simp at e;subst e;rw[←(hn o g q r).1];exact .own _ _ (hn o g q r).2 (by rw[(hn o g q r).1];exact h1)
  ·cases e
 |map o g hg h1 =>
  intro y e;simp only[AV.ren]at e;split at e
  ·rename_i q r;simp at e;subst e;rw[←(hn o g q r).1];exact .map _ _ (hn o g q r).2 (by rw[(hn o g q r).1];exact h1)
  ·cases e
 |fn f cs vs hl h ih =>
  intro y e;simp only[AV.ren]at e;split at e
  ·rename_i l m;simp at e;subst e;rw[Gm]at m;refine .fn f l vs (by rw[Af m];exact hl) (fun i y v e hv=>?_);obtain⟨x,hx,p⟩:=BC m e;exact ih i x v hx hv p
  ·cases e
 |tup cs vs hl h ih =>
  intro y e;simp only[AV.ren]at e;split at e
  ·rename_i l m;simp at e;subst e;rw[Gm]at m;refine .tup l vs (by rw[Af m];exact hl) (fun i y v e hv=>?_);obtain⟨x,hx,p⟩:=BC m e;exact ih i x v hx hv p
  ·cases e
 |undef v=>intro y e;simp[AV.ren]at e;subst e;exact .undef v
 |bnd f cs vs hl h=>intro y e;simp[AV.ren]at e
 |mref k o g u hg h h1 =>
  intro y e;simp only[AV.ren]at e;split at e
  ·rename_i q r;simp at e;subst e;exact .mref _ _ _ _ (hn o g q r).2 (by rw[(hn o g q r).1];exact h) h1
  ·cases e
 |ablk sl cs off b base vs u hb hne h1 hc hv hu ih =>
  intro y e;simp only[AV.ren]at e;split at e
  ·rename_i l m;simp at e;subst e;rw[Gm]at m
   cases cs with
   |nil=>exact absurd rfl hne
   |cons z zs =>
    have t:b<w.heap.size:=CH (hc 0 z (by simp));refine .ablk sl l off b base vs u (fun hh=>hb (A b t hh)) (fun B=>by have:=Af m;rw[B]at this;simp at this) (fun y e=>?_) (fun j y e=>?_) (fun j y e=>?_) (by rw[Af m];exact hu)
    ·obtain⟨x,hx,p⟩:=D5 m e;rw[OX p];exact h1 x hx
    ·obtain⟨x,hx,p⟩:=BC m e;exact hc j x hx
    ·obtain⟨x,hx,p⟩:=BC m e;exact ih j x hx p
  ·cases e
theorem AP.unren{w:World}{fb fb':Nat->Prop}{β β':Nat->Nat->Value}{cn cn':Nat->Nat}{ρ:Ren}(B:∀b,b<w.heap.size->fb' b->fb b)
  (hn:∀o g q,ρ.get o g=some q->β' o g=β q.1 q.2/\g<cn' o) {y:AV}{v:Value}(h:AP w fb β cn y v):∀{x:AV},x.ren ρ=some y->AP w fb' β' cn' x v:=by
 have inv:∀{x y:AV},x.ren ρ=some y->(∃o g off q,x=.ptr o g off/\ρ.get o g=some q/\y=.ptr q.1 q.2 off)\/(∃o g es i off q,x=.rptr o g es i off/\ρ.get o g=some q/\y=.rptr q.1 q.2 es i off) \/
   (∃o g q,x=.own o g/\ρ.get o g=some q/\y=.own q.1 q.2)\/(∃o g q,x=.map o g/\ρ.get o g=some q/\y=.map q.1 q.2) \/
   (∃cs l,x=.agg cs/\Ax (AV.ren ρ) cs=some l/\y=.agg l)\/(∃f cs l,x=.fn f cs/\Ax (AV.ren ρ) cs=some l/\y=.fn f l)\/(∃cs l,x=.tup cs/\Ax (AV.ren ρ) cs=some l/\y=.tup l) \/
   (∃k o g q,x=.mref k o g/\ρ.get o g=some q/\y=.mref k q.1 q.2)\/(∃sl cs off l,x=.ablk sl cs off/\Ax (AV.ren ρ) cs=some l/\y=.ablk sl l off) \/
   (x=y/\((∃d,y=.d d)\/(∃l,y=.ex l)\/(∃cs n,y=.dptr cs n)\/y=.undef)):=by
  intro x y hx
  cases x with
  |bnd f cs=>simp[AV.ren]at hx
  |ptr o g off =>
   simp only[AV.ren]at hx;split at hx
   ·rename_i q e;simp at hx;exact .inl ⟨o,g,off,q,rfl,e,hx.symm⟩
   ·cases hx
  |rptr o g es i off =>
   simp only[AV.ren]at hx;split at hx
   ·rename_i q e;simp at hx;exact .inr (.inl ⟨o,g,es,i,off,q,rfl,e,hx.symm⟩)
   ·cases hx
  |own o g =>
   simp only[AV.ren]at hx;split at hx
   ·rename_i q e;simp at hx;exact .inr (.inr (.inl ⟨o,g,q,rfl,e,hx.symm⟩))
   ·cases hx
  |map o g =>
   simp only[AV.ren]at hx;split at hx
   ·rename_i q e;simp at hx;exact .inr (.inr (.inr (.inl ⟨o,g,q,rfl,e,hx.symm⟩)))
   ·cases hx
  |agg cs =>
   simp only[AV.ren,Gm]at hx;split at hx
   ·rename_i l hl;simp at hx;exact .inr (.inr (.inr (.inr (.inl ⟨cs,l,rfl,hl,hx.symm⟩))))
   ·cases hx
  |fn f cs =>
   simp only[AV.ren,Gm]at hx;split at hx
   ·rename_i l hl;simp at hx;exact .inr (.inr (.inr (.inr (.inr (.inl ⟨f,cs,l,rfl,hl,hx.symm⟩)))))
   ·cases hx
  |tup cs =>
   simp only[AV.ren,Gm]at hx;split at hx
   ·rename_i l hl;simp at hx;exact .inr (.inr (.inr (.inr (.inr (.inr (.inl ⟨cs,l,rfl,hl,hx.symm⟩))))))
   ·cases hx
  |mref k o g =>
   simp only[AV.ren]at hx;split at hx
   ·rename_i q e;simp at hx;exact .inr (.inr (.inr (.inr (.inr (.inr (.inr (.inl ⟨k,o,g,q,rfl,e,hx.symm⟩)))))))
   ·cases hx
  |ablk sl cs off =>
   simp only[AV.ren,Gm]at hx;split at hx
   ·rename_i l hl;simp at hx;exact .inr (.inr (.inr (.inr (.inr (.inr (.inr (.inr (.inl ⟨sl,cs,off,l,rfl,hl,hx.symm⟩))))))))
   ·cases hx
  |d z=>simp[AV.ren]at hx;exact .inr (.inr (.inr (.inr (.inr (.inr (.inr (.inr (.inr ⟨hx,.inl ⟨z,hx.symm⟩⟩))))))))
  |ex z=>simp[AV.ren]at hx;exact .inr (.inr (.inr (.inr (.inr (.inr (.inr (.inr (.inr ⟨hx,.inr (.inl ⟨z,hx.symm⟩)⟩))))))))
  |dptr z n=>simp[AV.ren]at hx;exact .inr (.inr (.inr (.inr (.inr (.inr (.inr (.inr (.inr ⟨hx,.inr (.inr (.inl ⟨z,n,hx.symm⟩))⟩))))))))
  |undef=>simp[AV.ren]at hx;exact .inr (.inr (.inr (.inr (.inr (.inr (.inr (.inr (.inr ⟨hx,.inr (.inr (.inr hx.symm))⟩))))))))
 induction h with
 |d z v h =>
  intro x hx;rcases inv hx with⟨_,_,_,_,_,_,h⟩|⟨_,_,_,_,_,_,_,_,h⟩|⟨_,_,_,_,_,h⟩|⟨_,_,_,_,_,h⟩|⟨_,_,_,_,h⟩|⟨_,_,_,_,_,h⟩|⟨_,_,_,_,h⟩|⟨_,_,_,_,_,_,h⟩|⟨_,_,_,_,_,_,h⟩|⟨rfl,_⟩<;>first|exact .d _ _ (h.mono (Aq.refl _ _) B)|cases h
 |ex xs a h =>
  intro x hx;rcases inv hx with⟨_,_,_,_,_,_,h⟩|⟨_,_,_,_,_,_,_,_,h⟩|⟨_,_,_,_,_,h⟩|⟨_,_,_,_,_,h⟩|⟨_,_,_,_,h⟩|⟨_,_,_,_,_,h⟩|⟨_,_,_,_,h⟩|⟨_,_,_,_,_,_,h⟩|⟨_,_,_,_,_,_,h⟩|⟨rfl,_⟩<;>first|exact .ex _ _ (h.mono (Aq.refl _ _) B)|cases h
 |agg l vs hl h1 h ih =>
  intro x hx;rcases inv hx with⟨_,_,_,_,_,_,h⟩|⟨_,_,_,_,_,_,_,_,h⟩|⟨_,_,_,_,_,h⟩|⟨_,_,_,_,_,h⟩|⟨cs,l',rfl,hrl,h⟩|⟨_,_,_,_,_,h⟩|⟨_,_,_,_,h⟩|⟨_,_,_,_,_,_,h⟩|⟨_,_,_,_,_,_,h⟩|⟨rfl,⟨_,h⟩|⟨_,h⟩|⟨_,_,h⟩|h⟩<;>cases h
  refine .agg cs vs (by rw[←Af hrl];exact hl) (fun z p=>?_) (fun i z v p hv=>?_)
  ·obtain⟨i,hi⟩:=va p;obtain⟨y,r,m⟩:=C7 hrl hi;rw[←OX m];exact h1 y (f0 r)
  ·obtain⟨y,r,m⟩:=C7 hrl p;exact ih i y v r hv m
 |ptr o g off b hg h =>
  intro x hx;rcases inv hx with⟨_,_,_,q,rfl,e,h⟩|⟨_,_,_,_,_,_,_,_,h⟩|⟨_,_,_,_,_,h⟩|⟨_,_,_,_,_,h⟩|⟨_,_,_,_,h⟩|⟨_,_,_,_,_,h⟩|⟨_,_,_,_,h⟩|⟨_,_,_,_,_,_,h⟩|⟨_,_,_,_,_,_,h⟩|⟨rfl,⟨_,h⟩|⟨_,h⟩|⟨_,_,h⟩|h⟩<;>cases h
  exact .ptr _ _ _ b (hn _ _ q e).2 ((hn _ _ q e).1.trans (by assumption))
 |rptr o g es i off b b0 n cap hg h =>
  intro x hx;rcases inv hx with⟨_,_,_,q,_,e,h⟩|⟨_,_,_,_,_,q,rfl,e,h⟩|⟨_,_,_,_,_,h⟩|⟨_,_,_,_,_,h⟩|⟨_,_,_,_,h⟩|⟨_,_,_,_,_,h⟩|⟨_,_,_,_,h⟩|⟨_,_,_,_,_,_,h⟩|⟨_,_,_,_,_,_,h⟩|⟨rfl,⟨_,h⟩|⟨_,h⟩|⟨_,_,h⟩|h⟩<;>cases h
  exact .rptr _ _ _ _ _ b b0 n cap (hn _ _ q e).2 ((hn _ _ q e).1.trans (by assumption))
 |dptr cs off b base vs hb hne h1 hc hv =>
  intro x hx;rcases inv hx with⟨_,_,_,_,_,_,h⟩|⟨_,_,_,_,_,_,_,_,h⟩|⟨_,_,_,_,_,h⟩|⟨_,_,_,_,_,h⟩|⟨_,_,_,_,h⟩|⟨_,_,_,_,_,h⟩|⟨_,_,_,_,h⟩|⟨_,_,_,_,_,_,h⟩|⟨_,_,_,_,_,_,h⟩|⟨rfl,_⟩<;>try cases h
  cases cs with
  |nil=>exact absurd rfl hne
  |cons z zs =>
   have A:b<w.heap.size:=CH (hc 0 z (by simp));exact .dptr _ off b base vs (fun hh=>hb (B b A hh)) hne h1 hc (fun j c h1=>(hv j c h1).mono (Aq.refl _ _) B)
 |own o g hg h1 =>
  intro x hx;rcases inv hx with⟨_,_,_,_,_,_,h⟩|⟨_,_,_,_,_,_,_,_,h⟩|⟨_,_,q,rfl,e,h⟩|⟨_,_,_,_,_,h⟩|⟨_,_,_,_,h⟩|⟨_,_,_,_,_,h⟩|⟨_,_,_,_,h⟩|⟨_,_,_,_,_,_,h⟩|⟨_,_,_,_,_,_,h⟩|⟨rfl,⟨_,h⟩|⟨_,h⟩|⟨_,_,h⟩|h⟩<;>cases h
  rw[←(hn _ _ q e).1]at h1 ⊢;exact .own _ _ (hn _ _ q e).2 h1
 |map o g hg h1 =>
  intro x hx;rcases inv hx with⟨_,_,_,_,_,_,h⟩|⟨_,_,_,_,_,_,_,_,h⟩|⟨_,_,q,_,e,h⟩|⟨_,_,q,rfl,e,h⟩|⟨_,_,_,_,h⟩|⟨_,_,_,_,_,h⟩|⟨_,_,_,_,h⟩|⟨_,_,_,_,_,_,h⟩|⟨_,_,_,_,_,_,h⟩|⟨rfl,⟨_,h⟩|⟨_,h⟩|⟨_,_,h⟩|h⟩<;>cases h
  rw[←(hn _ _ q e).1]at h1 ⊢;exact .map _ _ (hn _ _ q e).2 h1
 |fn f l vs hl h ih =>
  intro x hx;rcases inv hx with⟨_,_,_,_,_,_,h⟩|⟨_,_,_,_,_,_,_,_,h⟩|⟨_,_,_,_,_,h⟩|⟨_,_,_,_,_,h⟩|⟨_,_,_,_,h⟩|⟨_,cs,l',rfl,hrl,h⟩|⟨_,_,_,_,h⟩|⟨_,_,_,_,_,_,h⟩|⟨_,_,_,_,_,_,h⟩|⟨rfl,⟨_,h⟩|⟨_,h⟩|⟨_,_,h⟩|h⟩<;>cases h
  refine .fn _ cs vs (by rw[←Af hrl];exact hl) (fun i z v p hv=>?_);obtain⟨y,r,m⟩:=C7 hrl p;exact ih i y v r hv m
 |tup l vs hl h ih =>
  intro x hx;rcases inv hx with⟨_,_,_,_,_,_,h⟩|⟨_,_,_,_,_,_,_,_,h⟩|⟨_,_,_,_,_,h⟩|⟨_,_,_,_,_,h⟩|⟨_,_,_,_,h⟩|⟨_,_,_,_,_,h⟩|⟨cs,l',rfl,hrl,h⟩|⟨_,_,_,_,_,_,h⟩|⟨_,_,_,_,_,_,h⟩|⟨rfl,⟨_,h⟩|⟨_,h⟩|⟨_,_,h⟩|h⟩<;>cases h
  refine .tup cs vs (by rw[←Af hrl];exact hl) (fun i z v p hv=>?_);obtain⟨y,r,m⟩:=C7 hrl p;exact ih i y v r hv m
 |undef v =>
  intro x hx;rcases inv hx with⟨_,_,_,_,_,_,h⟩|⟨_,_,_,_,_,_,_,_,h⟩|⟨_,_,_,_,_,h⟩|⟨_,_,_,_,_,h⟩|⟨_,_,_,_,h⟩|⟨_,_,_,_,_,h⟩|⟨_,_,_,_,h⟩|⟨_,_,_,_,_,_,h⟩|⟨_,_,_,_,_,_,h⟩|⟨rfl,_⟩<;>first|exact .undef v|cases h
 |mref k o g u hg h h1 =>
  intro x hx;rcases inv hx with⟨_,_,_,_,_,_,h⟩|⟨_,_,_,_,_,_,_,_,h⟩|⟨_,_,_,_,_,h⟩|⟨_,_,_,_,_,h⟩|⟨_,_,_,_,h⟩|⟨_,_,_,_,_,h⟩|⟨_,_,_,_,h⟩|⟨_,_,_,q,rfl,e,h⟩|⟨_,_,_,_,_,_,h⟩|⟨rfl,⟨_,h⟩|⟨_,h⟩|⟨_,_,h⟩|h⟩<;>cases h
  exact .mref _ _ _ _ (hn _ _ q e).2 (by rw[(hn _ _ q e).1];assumption) h1
 |ablk sl l off b base vs u hb hne h1 hc hv hu ih =>
  intro x hx;rcases inv hx with⟨_,_,_,_,_,_,h⟩|⟨_,_,_,_,_,_,_,_,h⟩|⟨_,_,_,_,_,h⟩|⟨_,_,_,_,_,h⟩|⟨_,_,_,_,h⟩|⟨_,_,_,_,_,h⟩|⟨_,_,_,_,h⟩|⟨_,_,_,_,_,_,h⟩|⟨_,cs,_,l',rfl,hrl,h⟩|⟨rfl,⟨_,h⟩|⟨_,h⟩|⟨_,_,h⟩|h⟩<;>cases h
  have t:∀(j:Nat) (z:AV),cs[j]?=some z->∃y,l[j]?=some y/\z.ren ρ=some y:=fun j z p=>C7 hrl p
  cases l with
  |nil=>exact absurd rfl hne
  |cons J L =>
   have A:b<w.heap.size:=CH (hc 0 J (by simp));refine .ablk sl cs off b base vs u (fun hh=>hb (B b A hh)) (fun G=>by have:=Af hrl;rw[G]at this;simp at this) (fun z p=>?_) (fun j z p=>?_) (fun j z p=>?_) (by rw[←Af hrl];exact hu)
   ·obtain⟨i,hi⟩:=va p;obtain⟨y,r,m⟩:=t i z hi;rw[←OX m];exact h1 y (f0 r)
   ·obtain⟨y,r,m⟩:=t j z p;exact hc j y r
   ·obtain⟨y,r,m⟩:=t j z p;exact ih j y r m
 |bnd f cs vs hl h =>
  intro x hx;rcases inv hx with⟨_,_,_,_,_,_,h⟩|⟨_,_,_,_,_,_,_,_,h⟩|⟨_,_,_,_,_,h⟩|⟨_,_,_,_,_,h⟩|⟨_,_,_,_,h⟩|⟨_,_,_,_,_,h⟩|⟨_,_,_,_,h⟩|⟨_,_,_,_,_,_,h⟩|⟨_,_,_,_,_,_,h⟩|⟨rfl,⟨_,h⟩|⟨_,h⟩|⟨_,_,h⟩|h⟩<;>cases h
theorem Ef.ren{w:World}{fb fb':Nat->Prop}{β β':Nat->Nat->Value}{cn cn':Nat->Nat}{ρ:Ren}(r:∀b,b<w.heap.size->fb' b->fb b)
  (hn:∀o g q,ρ.get o g=some q->β' q.1 q.2=β o g/\q.2<cn' q.1) {x y:AY}{v:Value}(h:Ef w fb β cn x v) (j:x.ren ρ=some y):Ef w fb' β' cn' y v:=by
 cases h with
 |cells xs b cur e hb hl h1 h =>
  simp only[AY.ren,Gm]at j;split at j
  ·rename_i l m;simp at j;subst j;refine .cells l b cur e hb (by rw[Af m];exact hl) (fun z t=>?_) fun i z u t hu=>?_
   ·obtain⟨x,hx,p⟩:=D5 m t;rw[OX p];exact h1 x hx
   ·obtain⟨x,hx,p⟩:=BC m t;exact(h i x u hx hu).ren r hn p
  ·cases j
 |row ety es nil xs v h =>
  simp[AY.ren]at j;subst j;exact .row _ _ _ _ _ (h.mono (Aq.refl _ _) r fun _ _ _=>rfl)
 |map tys kvs b es hb hl h =>
  simp[AY.ren]at j;subst j
  exact .map tys kvs b es hb hl fun i kv e hk B=>by
   obtain⟨h1,h2,G,A⟩:=h i kv e hk B;exact⟨h1,h2.mono (Aq.refl _ _) r,G.mono (Aq.refl _ _) r,A⟩
 |mitD=>simp[AY.ren]at j
 |hist els n st l=>simp[AY.ren]at j
 |rowP=>simp[AY.ren]at j
 |mat e1 e2 nil ix rows v h =>
  simp[AY.ren]at j;subst j;exact .mat _ _ _ _ _ _ (h.mono (Aq.refl _ _) r fun _ _ _=>rfl)
theorem Ef.unren{w:World}{fb fb':Nat->Prop}{β β':Nat->Nat->Value}{cn cn':Nat->Nat}{ρ:Ren}(r:∀b,b<w.heap.size->fb' b->fb b)
  (hn:∀o g q,ρ.get o g=some q->β' o g=β q.1 q.2/\g<cn' o) {x y:AY}{v:Value}(h:Ef w fb β cn y v) (j:x.ren ρ=some y):Ef w fb' β' cn' x v:=by
 cases x with
 |cells xs =>
  simp only[AY.ren,Gm]at j;split at j
  ·rename_i l m;simp at j;subst j
   cases h with
   |cells _ b cur e hb hl h1 h =>
    refine .cells xs b cur e hb (by rw[←Af m];exact hl) (fun z t=>?_) fun i z u t hu=>?_
    ·obtain⟨i,hi⟩:=va t;obtain⟨y,j,p⟩:=C7 m hi;rw[←OX p];exact h1 y (f0 j)
    ·obtain⟨y,j,p⟩:=C7 m t;exact(h i y u j hu).unren r hn p
  ·cases j
 |row ety es nil xs =>
  simp[AY.ren]at j;subst j
  cases h with
  |row _ _ _ _ _ h=>exact .row _ _ _ _ _ (h.mono (Aq.refl _ _) r fun _ _ _=>rfl)
 |map tys kvs =>
  simp[AY.ren]at j;subst j
  cases h with
  |map _ _ b es hb hl h =>
   exact .map tys kvs b es hb hl fun i kv e hk B=>by
    obtain⟨h1,h2,G,A⟩:=h i kv e hk B;exact⟨h1,h2.mono (Aq.refl _ _) r,G.mono (Aq.refl _ _) r,A⟩
 |mapB tys ks cl=>simp[AY.ren]at j;subst j;cases h
 |mitO=>simp[AY.ren]at j
 |mitD=>simp[AY.ren]at j
 |hist els n st=>simp[AY.ren]at j
 |rowH=>simp[AY.ren]at j
 |rowP=>simp[AY.ren]at j
 |mat e1 e2 nil ix rows =>
  simp[AY.ren]at j;subst j
  cases h with
  |mat _ _ _ _ _ _ h=>exact .mat _ _ _ _ _ _ (h.mono (Aq.refl _ _) r fun _ _ _=>rfl)
theorem oQ{ρ:Ren}{x y:AY}(h:x.ren ρ=some y):y.isHist=false:=by
 cases x with
 |cells xs =>
  simp only[AY.ren]at h;split at h
  ·simp at h;subst h;rfl
  ·cases h
 |row ety es nil xs=>simp[AY.ren]at h;subst h;rfl
 |map tys kvs=>simp[AY.ren]at h;subst h;rfl
 |mapB tys ks cl=>simp[AY.ren]at h;subst h;rfl
 |mitO=>simp[AY.ren]at h
 |mitD=>simp[AY.ren]at h
 |hist els n st=>simp[AY.ren]at h
 |rowH=>simp[AY.ren]at h
 |rowP=>simp[AY.ren]at h
 |mat=>simp[AY.ren]at h;subst h;rfl
section
variable {E:CW}{c:EG}{β:Nat->Nat->Value}{s:BG}{tm:Array Value}{w:World}{K:AV->Bs->Prop}
theorem BZ.call(h:BZ E c β s tm w){V2:AO}{β2:Nat->Nat->Value}{w':World}(H T:Nat->Prop)
  (U:w'.os=w.os) (S:w'.tape=w.tape) (L:w'.output=w.output) (J:w.heap.size<=w'.heap.size) (q:∀k,k<w.heap.size->¬H k->w'.heap[k]?=w.heap[k]?)
  (X:∀b,H b->∃o g x,s.V.ob o=some (g,x)/\C4 (β o g) b) (G:∀o g x b,s.V.ob o=some (g,x)->C4 (β o g) b->H b->T o)
  (z:∀o,s.V.cn o<=V2.cn o) (hβ:∀o g,g<s.V.cn o->β2 o g=β o g) (Y:∀o,¬T o->V2.ob o=s.V.ob o)
  (i:∀o g y,T o->V2.ob o=some (g,y)->g<V2.cn o/\Ef w' (c.bar β2 V2) β2 V2.cn y (β2 o g)/\(∀b,C4 (β2 o g) b->b<w'.heap.size/\¬c.fb b/\(w.heap.size<=b\/H b))/\(Cr<=o->β2 o g=c.b0 o)/\y.isHist=false)
  (O:∀o o' g g' x x' b,T o->T o'->V2.ob o=some (g,x)->V2.ob o'=some (g',x')->C4 (β2 o g) b->C4 (β2 o' g') b->o=o') :
  BZ E c β2 ⟨s.sl,V2⟩ tm w':=by
 have r:∀{o g x},¬T o->V2.ob o=some (g,x)->s.V.ob o=some (g,x)/\β2 o g=β o g:=fun {o g x} ht hx=>by
  rw[Y o ht]at hx;exact⟨hx,hβ o g (h.objs o g x hx).1⟩
 have M:∀b,H b->b<w.heap.size/\(c.w0.heap.size<=b\/c.mine b)/\¬c.fb b:=fun b hb=>by
  obtain⟨o,g,x,h1,h2⟩:=X b hb;exact h.home o g x b h1 h2
 have m:∀b,b<w.heap.size->c.bar β2 V2 b->c.bar β s.V b:=by
  intro b u hh;rcases hh with hh|⟨o',g',x',h1,h2⟩
  ·exact .inl hh
  ·by_cases ht:T o'
   ·rcases((i o' g' x' ht h1).2.2.1 b h2).2.2 with e|e
    ·omega
    ·exact .inr (X b e)
   ·obtain⟨e,j⟩:=r ht h1;exact .inr ⟨o',g',x',e,by rw[←j];exact h2⟩
 have B:Aq (c.bar β s.V) w w':=fun b hn u=>q b u fun hb=>hn (.inr (X b hb))
 refine⟨⟨U.trans h.keep.os,S.trans h.keep.tape,L.trans h.keep.output,vb h.keep.size J,fun k hk hm=>?_⟩,h.low,fun g cs hg=>(h.glob g cs hg).mono B m,fun t=>?_,fun o g x hx=>?_,?_,?_,?_,fun p A els n st h1=>?_⟩
 ·rw[←h.keep.block k hk hm];refine q k (lb hk h.keep.size) fun hb=>?_
  rcases(M k hb).2.1 with l|l
  ·omega
  ·exact hm l
 ·exact(h.slots t).mono B m hβ z
 ·by_cases ht:T o
  ·exact⟨(i o g x ht hx).1,(i o g x ht hx).2.1⟩
  ·obtain⟨e,j⟩:=r ht hx;obtain⟨h1,h2⟩:=h.objs o g x e;refine⟨lb h1 (z o),?_⟩;show Ef w' (c.bar β2 V2) β2 V2.cn x (β2 o g);rw[j];exact h2.mono B m hβ z fun b R u=>q b u fun hb=>ht (G o g x b e R hb)
 ·intro p Z A g2 N x2 b h1 h2 e j
  by_cases t1:T p<;>by_cases t2:T Z
  ·exact O _ _ _ _ _ _ b t1 t2 h1 h2 e j
  ·obtain⟨k1,k2⟩:=r t2 h2;rw[k2]at j;rcases((i p A N t1 h1).2.2.1 b e).2.2 with l|l
   ·have:=(h.home _ _ _ b k1 j).1;omega
   ·exact absurd (G _ _ _ b k1 j l) t2
  ·obtain⟨k1,k2⟩:=r t1 h1;rw[k2]at e;rcases((i Z g2 x2 t2 h2).2.2.1 b j).2.2 with l|l
   ·have:=(h.home _ _ _ b k1 e).1;omega
   ·exact absurd (G _ _ _ b k1 e l) t1
  ·obtain⟨k1,k2⟩:=r t1 h1;obtain⟨k3,k4⟩:=r t2 h2;rw[k2]at e;rw[k4]at j;exact h.sep _ _ _ _ _ _ b k1 k3 e j
 ·intro p A N b h1 h2
  by_cases t1:T p
  ·obtain⟨e,j,l⟩:=(i p A N t1 h1).2.2.1 b h2;refine⟨e,?_,j⟩;rcases l with l|l
   ·exact .inl (vb h.keep.size l)
   ·exact(M b l).2.1
  ·obtain⟨k1,k2⟩:=r t1 h1;rw[k2]at h2;obtain⟨e,j⟩:=h.home _ _ _ b k1 h2;exact⟨lb e J,j⟩
 ·intro p A N ho h1
  by_cases t1:T p
  ·exact(i p A N t1 h1).2.2.2.1 ho
  ·obtain⟨k1,k2⟩:=r t1 h1;rw[k2];exact h.pin _ _ _ ho k1
 ·by_cases t1:T p
  ·have:=(i p A _ t1 h1).2.2.2.2;cases this
  ·obtain⟨k1,k2⟩:=r t1 h1;rw[k2];exact h.hist _ _ _ _ _ k1
theorem Ren.get_mem:∀{ρ:Ren}{o g:Nat}{q:Nat×Nat},ρ.get o g=some q->((o,g),q)∈ρ
 |[],_,_,_,h=>by simp[Ren.get]at h
 |(p,q')::l,o,g,q,h=>by
  simp only[Ren.get]at h;split at h
  ·rename_i hh;obtain⟨rfl,rfl⟩:=hh;simp at h;subst h;simp
  ·exact wa _ (Ren.get_mem h)
theorem J2:∀{l:List Nat},CG l=true->l.Nodup
 |[],_=>List.nodup_nil
 |x::l,h=>by
  simp only[CG,ea,Bool.not_eq_true']at h;rw[wb];exact⟨fun hx=>by have:=h.1;simp[hx]at this,J2 h.2⟩
theorem KE{α:Type}{f:α->Nat}:∀{l:List α},(l.map f).Nodup->∀{x y:α},x∈l->y∈l->f x=f y->x=y
 |[],_,_,_,hx,_,_=>by cases hx
 |a::l,h,x,y,hx,hy,he=>by
  rw[hY,wb]at h;rcases ox.1 hx with i|i<;>rcases ox.1 hy with e|e
  ·rw[i,e]
  ·exact absurd (by rw[←i,he];exact wc e) h.1
  ·exact absurd (by rw[←e,←he];exact wc i) h.1
  ·exact KE h.2 i e he
theorem Nc{V:AO}{F:List Nat}{ρ:Ren}:∀{V0:List (Nat×Nat×AY)},Handed V F ρ V0->∀o g x,(o,g,x)∈V0->∃q y,ρ.get o g=some q/\x.ren ρ=some y/\V.get q.1 q.2=some y/\q.1∈F
 |[],_,_,_,_,h=>by cases h
 |(o',g',x')::l,h,o,g,x,hm=>by
  simp only[Handed]at h;rcases ox.1 hm with j|hm
  ·cases j
   obtain⟨h,_⟩:=h;split at h
   ·rename_i q y e i;exact⟨q,y,e,i,h.1,by simpa using h.2⟩
   ·exact h.elim
  ·exact Nc h.2 o g x hm
theorem So{V:List (Nat×Nat×AY)}{o g:Nat}(h:Fh V o g=true):∃x,(o,g,x)∈V:=by
 unfold Fh at h;rw[wd]at h;obtain⟨⟨o',g',x⟩,hm,e⟩:=h;simp at e;obtain⟨rfl,rfl⟩:=e;exact⟨x,hm⟩
structure sC (cn:Nat->Nat) (dst:Option Nat) (V0 V1:List (Nat×Nat×AY)) (ρ ρ2:Ren):Prop where
 n0:∀o g q o' g' q',ρ.get o g=some q->ρ.get o' g'=some q'->q.1=q'.1->o=o'/\g=g'
 n1:∀o g q,ρ.get o g=some q->g=0/\(∃x,(o,g,x)∈V0)/\(Cr<=o->ρ2.get o g=some q)/\(o<Cr->ρ2.get o g=none/\∃o' g' q',ρ2.get o' g'=some q'/\q'.1=q.1)
 n2:∀o g q,ρ2.get o g=some q->(∃x,(o,g,x)∈V1)/\(ρ.get o g=none->q.1<Cr/\q.2=cn q.1/\((∃t,dst=some t/\q.1∈Jf t)\/∃o0 g0 q0,ρ.get o0 g0=some q0/\q0.1=q.1))
 n3:∀o g q o' g' q',ρ2.get o g=some q->ρ2.get o' g'=some q'->q.1=q'.1->o=o'/\g=g'
 n4:∀p p',p∈V1->p'∈V1->p.1=p'.1->p=p'
 n5:(V1.map (·.1)).Nodup
theorem sC.both{cn:Nat->Nat}{dst:Option Nat}{V0 V1:List (Nat×Nat×AY)}{ρ ρ2:Ren}(N:sC cn dst V0 V1 ρ ρ2){o g:Nat}{q q':Nat×Nat}(h:ρ.get o g=some q)(h2:ρ2.get o g=some q'):Cr<=o/\q'=q:=by
 obtain⟨_,_,i,e⟩:=N.n1 o g q h;rcases qAB o Cr with hl|hl
 ·rw[(e hl).1]at h2;cases h2
 ·have:=i hl;rw[h2]at this;exact⟨hl,by simpa using this⟩
theorem dc{ρ2:Ren}{o:Nat}(h:Zj ρ2 o=true):∃o' g' q',ρ2.get o' g'=some q'/\q'.1=o:=by
 simp only[Zj,wd]at h;obtain⟨e,_,i⟩:=h;split at i
 ·rename_i q j;exact⟨_,_,q,j,by simpa using i⟩
 ·cases i
theorem RF{ρ:Ren}{o:Nat}(h:Ug ρ o=true):∃o0 g0 q0,ρ.get o0 g0=some q0/\q0.1=o:=by
 simp only[Ug,wd,ea]at h;obtain⟨e,_,_,i⟩:=h;split at i
 ·rename_i q j;exact⟨_,_,q,j,by simpa using i⟩
 ·cases i
theorem iQ{ρ:Ren}(l:CG (ρ.map fun e=>e.2.1)=true){o g:Nat}{q:Nat×Nat}{o' g':Nat}{q':Nat×Nat}(i:ρ.get o g=some q)(h:ρ.get o' g'=some q')(j:q.1=q'.1):o=o'/\g=g':=by
 have:=KE (J2 l) (Ren.get_mem i) (Ren.get_mem h) j;simp only[Prod.mk.injEq]at this;exact this.1
theorem bi{cn:Nat->Nat}{dst:Option Nat}{V0 V1:List (Nat×Nat×AY)}{ρ ρ2:Ren}(h:ET cn dst V0 V1 ρ ρ2=true):sC cn dst V0 V1 ρ ρ2:=by
 simp only[ET,ea,List.all_eq_true]at h;obtain⟨⟨⟨⟨h1,h2⟩,h0⟩,r⟩,n⟩:=h;refine⟨fun o g q o' g' q' j e l=>iQ h0 j e l,fun o g q j=>?_,fun o g q j=>?_,fun o g q o' g' q' j e l=>iQ r j e l,fun p p' hp m l=>KE (J2 n) hp m l,J2 n⟩
 ·obtain⟨⟨k1,k2⟩,i⟩:=h1 _ (Ren.get_mem j);refine⟨by simpa using k1,So k2,fun hl=>?_,fun hl=>?_⟩
  ·split at i
   ·rename_i q' e;simp at i;simp only at e;rw[e];congr 1;exact Prod.ext i.2.1 i.2.2
   ·simp only[ea,decide_eq_true_eq]at i;omega
  ·split at i
   ·simp only[ea,decide_eq_true_eq]at i;omega
   ·rename_i e;simp only[ea]at i;exact⟨e,dc i.2⟩
 ·obtain⟨k1,k2⟩:=h2 _ (Ren.get_mem j);refine⟨So k1,fun hn=>?_⟩;simp only[hn,ea,Bool.or_eq_true,decide_eq_true_eq,beq_iff_eq]at k2;refine⟨k2.1.1,k2.1.2,?_⟩;rcases k2.2 with i|i
  ·left;split at i
   ·rename_i t;exact⟨t,rfl,by simpa using i⟩
   ·cases i
  ·exact .inr (RF i)
theorem db{ρ ρ2:Ren}:∀{V1:List (Nat×Nat×AY)}{V:AO}{ch:Bs},HO ρ ρ2 V1=some ch->(V1.map (·.1)).Nodup ->
  (∀o g q o' g' q',ρ2.get o g=some q->ρ2.get o' g'=some q'->q.1=q'.1->o=o'/\g=g') ->
  (∀o g x q,(o,g,x)∈V1->ρ2.get o g=some q->(∀q',ρ.get o g=some q'->q.2<V.cn q.1)/\(ρ.get o g=none->q.2=V.cn q.1)) ->
  (∀o g x,(o,g,x)∈V1->∃q y,ρ2.get o g=some q/\x.ren ρ2=some y/\(V.app ch).ob q.1=some (q.2,y)/\q.2<(V.app ch).cn q.1) /\
  (∀o',(∀o g x q,(o,g,x)∈V1->ρ2.get o g=some q->q.1≠o')->(V.app ch).ob o'=V.ob o'/\(V.app ch).cn o'=V.cn o')/\∀o',V.cn o'<=(V.app ch).cn o'
 |[],V,ch,h,_,_,_=>by
  simp[HO]at h;subst h;exact⟨fun _ _ _ h=>(by cases h),fun _ _=>⟨rfl,rfl⟩,fun _=>az _⟩
 |(o,g,x)::l,V,ch,h,hnd,n3,hcn=>by
  simp only[HO]at h;split at h
  ·rename_i q y cl u J z;simp at h;subst h;rw[hY,wb]at hnd
   let hd:Bs:=match ρ.get o g with|some _=>.keep q.1 q.2 y|none=>.fresh q.1 y
   have m:∀o',o'≠q.1->(V.app hd).ob o'=V.ob o'/\(V.app hd).cn o'=V.cn o':=by
    intro o' hne;show(V.app (match ρ.get o g with|some _=>.keep q.1 q.2 y|none=>.fresh q.1 y)).ob o'=_/\(V.app (match ρ.get o g with|some _=>.keep q.1 q.2 y|none=>.fresh q.1 y)).cn o'=_;split<;>simp[AO.app,CB,hne]
   have j:(V.app hd).ob q.1=some (q.2,y)/\q.2<(V.app hd).cn q.1/\V.cn q.1<=(V.app hd).cn q.1:=by
    obtain⟨c1,c2⟩:=hcn o g x q (by simp) u;show(V.app (match ρ.get o g with|some _=>.keep q.1 q.2 y|none=>.fresh q.1 y)).ob q.1=_/\q.2<(V.app (match ρ.get o g with|some _=>.keep q.1 q.2 y|none=>.fresh q.1 y)).cn q.1/\_<=(V.app (match ρ.get o g with|some _=>.keep q.1 q.2 y|none=>.fresh q.1 y)).cn q.1;split
    ·rename_i q' i;exact⟨by simp[AO.app,CB],c1 q' i,az _⟩
    ·rename_i hn;have:=c2 hn;simp[AO.app,CB,this]
   have hne:∀o' g' x' q',(o',g',x')∈l->ρ2.get o' g'=some q'->q'.1≠q.1:=fun o' g' x' q' hm i r=>by
    have:=(n3 _ _ _ _ _ _ i u r).1;subst this;exact hnd.1 (wc (f:=(·.1)) hm)
   obtain⟨G,A,B⟩:=db (V:=V.app hd) z hnd.2 n3 fun o' g' x' q' hm i=>by
    rw[(m q'.1 (hne o' g' x' q' hm i)).2];exact hcn o' g' x' q' (wa _ hm) i
   have n:=A q.1 fun o' g' x' q' hm i=>hne o' g' x' q' hm i
   refine⟨fun o' g' x' hm=>?_,fun o' t=>?_,fun o'=>?_⟩
   ·rcases ox.1 hm with r|hm
    ·cases r
     refine⟨q,y,u,J,?_,?_⟩
     ·show((V.app hd).app cl).ob q.1=_;rw[n.1];exact j.1
     ·show _<((V.app hd).app cl).cn q.1;rw[n.2];exact j.2.1
    ·exact G o' g' x' hm
   ·obtain⟨R,M⟩:=A o' fun S N O L hm n=>t S N O L (wa _ hm) n
    have p:o'≠q.1:=fun e=>t o g x q (by simp) u e.symm
    exact⟨R.trans (m o' p).1,M.trans (m o' p).2⟩
   ·refine vb ?_ (B o')
    by_cases r:o'=q.1
    ·subst r;exact j.2.2
    ·rw[(m o' r).2];exact az _
  ·cases h
theorem YI{ρ:Ren}:∀{ys xs:List AV},PT ρ ys xs->xs.length=ys.length/\∀(i:Nat) (y:AV),ys[i]?=some y->∃x,xs[i]?=some x/\wh ρ y x
 |[],[],_=>⟨rfl,fun i y h=>by simp at h⟩
 |[],_::_,h=>h.elim
 |_::_,[],h=>h.elim
 |y::ys,x::xs,h=>by
  obtain⟨h1,h2⟩:=YI h.2;refine⟨by simp[h1],fun i z e=>?_⟩
  cases i with
  |zero=>simp at e;subst e;exact⟨x,by simp,h.1⟩
  |succ i=>simp at e;obtain⟨w,j,hm⟩:=h2 i z e;exact⟨w,by simpa using j,hm⟩
open Classical in
theorem bB(h:BZ E c β s tm w){dst:Option Nat}{f:FuncId}{xs:List AV}{us:Array Value}(hus:us.size=xs.length)(hxs:∀(i:Nat) (x:AV) (v:Value),xs[i]?=some x->us[i]?=some v->AP w (c.bar β s.V) β s.V.cn x v)
  {F:List Nat}{V0 V1:List (Nat×Nat×AY)}{χ:List AV}{r r':AV}{ch:Bs}{ρ ρ2:Ren}(φ:PT ρ χ xs) (δ:Eg E f V0 χ V1 r) (κ:Handed s.V F ρ V0) (hnm:ET s.V.cn dst V0 V1 ρ ρ2=true)
  (hr:r.ren ρ2=some r') (ε:HO ρ ρ2 V1=some ch) (hK:K r' ch) :
  Calls E.P f us w fun e w''=>∃u v ch β',e=.returned u/\K v ch/\BZ E c β' ⟨s.sl,s.V.app ch⟩ tm w''/\AP w'' (c.bar β' (s.V.app ch)) β' (s.V.app ch).cn v u:=by
 have hH:=Nc κ;have N:=bi hnm;obtain⟨ν,μ⟩:=YI φ;obtain⟨βc,hβc⟩:∃βc:Nat->Nat->Value,βc=fun o g=>match ρ.get o g with|some q=>β q.1 q.2|none=>undef:=⟨_,rfl⟩
 have hβq:∀o g q,ρ.get o g=some q->βc o g=β q.1 q.2:=fun o g q j=>by rw[hβc];simp only[j]
 obtain⟨H,L⟩:∃H:Nat->Prop,H=Fy βc V0:=⟨_,rfl⟩
 have m:∀o g x,(o,g,x)∈V0->∃q y,ρ.get o g=some q/\x.ren ρ=some y/\s.V.ob q.1=some (q.2,y)/\βc o g=β q.1 q.2:=fun o g x hm=>by
  obtain⟨q,y,h1,h2,l,_⟩:=hH o g x hm;exact⟨q,y,h1,h2,AO.get_some l,hβq o g q h1⟩
 have Y:∀b,H b->∃o g x q y,(o,g,x)∈V0/\ρ.get o g=some q/\s.V.ob q.1=some (q.2,y)/\C4 (β q.1 q.2) b:=fun b hb=>by
  rw[L]at hb;obtain⟨o,g,x,hm,hbb⟩:=hb;obtain⟨q,y,h1,_,l,n⟩:=m o g x hm;exact⟨o,g,x,q,y,hm,h1,l,by rw[←n];exact hbb⟩
 let fbc:Nat->Prop:=fun b=>c.bar β s.V b/\¬H b
 have A:∀b,(fbc b\/Fy βc V0 b)->c.bar β s.V b:=by
  intro b hb;rcases hb with hb|hb
  ·exact hb.1
  ·rw[←L]at hb;obtain⟨o,g,x,q,y,_,_,l,n⟩:=Y b hb;exact .inr ⟨_,_,_,l,n⟩
 have η:∀o g q,ρ.get o g=some q->βc o g=β q.1 q.2/\g<1:=fun o g q j=>⟨hβq o g q j,by have:=(N.n1 o g q j).1;omega⟩
 have hAt:At w fbc βc (fun _=>1) V0:=by
  refine⟨fun o g x hm=>?_,fun o g x o' g' x' b hm ζ hb J=>?_,fun o g x b hm hb=>?_⟩
  ·obtain⟨q,y,h1,h2,l,n⟩:=m o g x hm;refine⟨(η o g q h1).2,?_⟩;rw[n];exact(h.objs _ _ _ l).2.unren (fun b _ hb=>A b hb) η h2
  ·obtain⟨q,y,h1,h2,l,n⟩:=m o g x hm;obtain⟨q',y',h1',h2',h3',h4'⟩:=m o' g' x' ζ;rw[n]at hb;rw[h4']at J;have:=h.sep _ _ _ _ _ _ b l h3' hb J;exact N.n0 _ _ _ _ _ _ h1 h1' this
  ·obtain⟨q,y,h1,h2,l,n⟩:=m o g x hm;have υ:=hb;rw[n]at υ;exact⟨(h.home _ _ _ b l υ).1,fun hf=>hf.2 (by rw[L];exact⟨o,g,x,hm,hb⟩)⟩
 refine(δ w fbc βc us (fun b hb=>JQ h hb.1) (fun g cs hg=>(h.glob g cs hg).mono (Aq.refl _ _) fun b _ hb=>A b hb) hAt (by rw[hus];exact ν) (fun i x v hx hv=>?_)).mono fun e w' ι=>?_
 ·obtain⟨y,hy,ω⟩:=μ i x hx;have γ:=hxs i y v hy hv
  cases x with
  |d z=>exact .d _ _ ((B' γ ω).1.mono (Aq.refl _ _) fun b _ hb=>A b hb)
  |_=>exact γ.unren (fun b _ hb=>A b hb) η ω
 obtain⟨u,β1,cn1,he,e1,e2,e3,e4,e5,O,e6,e7,e8⟩:=ι;rw[←L]at e5
 obtain⟨a1,a2,a3⟩:=db (V:=s.V) ε N.n5 N.n3 fun o g x q hm j=>⟨fun q' B=>by
   obtain rfl:=(N.both B j).2;obtain⟨x0,R⟩:=(N.n1 _ _ _ B).2.1;obtain⟨q2,y2,h1,_,l,_⟩:=m o g x0 R;rw[B]at h1;simp at h1;subst h1
   exact(h.objs _ _ _ l).1,fun hn=>((N.n2 _ _ _ j).2 hn).2.1⟩
 obtain⟨β2,hβ2d⟩:∃β2:Nat->Nat->Value,β2=fun o' g'=>if hh:∃p:Nat×Nat,ρ2.get p.1 p.2=some (o',g')then β1 hh.choose.1 hh.choose.2 else β o' g':=⟨_,rfl⟩
 have hβ2q:∀o g q,ρ2.get o g=some q->β2 q.1 q.2=β1 o g:=by
  intro o g q j;have U:∃p:Nat×Nat,ρ2.get p.1 p.2=some (q.1,q.2):=⟨(o,g),j⟩
  rw[hβ2d];simp only[U,dif_pos];have hs:=U.choose_spec;obtain⟨k1,k2⟩:=N.n3 _ _ _ _ _ _ hs j rfl;rw[k1,k2]
 have α:∀o g q,ρ.get o g=some q->Cr<=o->β1 o g=β q.1 q.2:=fun o g q j hl=>by
  obtain⟨x0,R⟩:=(N.n1 _ _ _ j).2.1;rw[(e6 o g x0 R hl).2,hβq o g q j]
 have hβ2lt:∀o' g',g' < s.V.cn o'->β2 o' g'=β o' g':=by
  intro o' g' ψ
  by_cases U:∃p:Nat×Nat,ρ2.get p.1 p.2=some (o',g')
  ·obtain⟨p,hp⟩:=U;rw[show β2 o' g'=β1 p.1 p.2 from hβ2q _ _ _ hp]
   cases hr:ρ.get p.1 p.2 with
   |some q =>
    obtain⟨hl,rfl⟩:=N.both hr hp;exact α _ _ _ hr hl
   |none =>
    have h5:=((N.n2 _ _ _ hp).2 hr).2.1;simp only at h5;omega
  ·rw[hβ2d];simp only[U,dif_neg,not_false_eq_true]
 let T:Nat->Prop:=fun o'=>∃o g x q,(o,g,x)∈V1/\ρ2.get o g=some q/\q.1=o'
 have hT0:∀o g x q,(o,g,x)∈V0->ρ.get o g=some q->T q.1:=fun o g x q hm j=>by
  obtain⟨_,_,k3,k4⟩:=N.n1 _ _ _ j;rcases qAB o Cr with hl|hl
  ·obtain⟨_,o',g',q',k5,k6⟩:=k4 hl;obtain⟨x',θ⟩:=(N.n2 _ _ _ k5).1;exact⟨o',g',x',q',θ,k5,k6⟩
  ·obtain⟨⟨x',θ⟩,_⟩:=e6 o g x hm hl;exact⟨o,g,x',q,θ,k3 hl,rfl⟩
 have G:∀{o' g' y'},T o'->(s.V.app ch).ob o'=some (g',y')->∃o g x,(o,g,x)∈V1/\ρ2.get o g=some (o',g')/\x.ren ρ2=some y'/\g' < (s.V.app ch).cn o':=by
  intro o' g' y' ⟨o,g,x,q,hm,j,he⟩ t;obtain⟨q',y,h1,h2,l,n⟩:=a1 o g x hm;rw[j]at h1;simp at h1;subst h1;subst he;rw[t]at l;simp at l;obtain⟨rfl,rfl⟩:=l;exact⟨o,g,x,hm,j,h2,n⟩
 have σ:∀o',¬T o'->(s.V.app ch).ob o'=s.V.ob o':=fun o' ht=>(a2 o' fun o g x q hm j he=>ht ⟨o,g,x,q,hm,j,he⟩).1
 have ξ:∀o g x b,s.V.ob o=some (g,x)->C4 (β o g) b->H b->T o:=fun o' g' x' b t hb S=>by
  obtain⟨o,g,x,q,y,hm,j,l,n⟩:=Y b S;have:=h.sep _ _ _ _ _ _ b l t n hb;subst this;exact hT0 o g x q hm j
 have Z:∀b,c.fb b->fbc b:=fun b hb=>⟨.inl hb,fun S=>by
  obtain⟨o,g,x,q,y,hm,j,l,n⟩:=Y b S
  exact(h.home _ _ _ b l n).2.2 hb⟩
 have M:∀b,c.bar β2 (s.V.app ch) b->fbc b\/Fy β1 V1 b:=by
  intro b hb;rcases hb with hb|⟨o',g',x',h1,h2⟩
  ·exact .inl (Z b hb)
  ·by_cases ht:T o'
   ·obtain⟨o,g,x,hm,j,_,_⟩:=G ht h1;exact .inr ⟨o,g,x,hm,by rw[←hβ2q _ _ _ j];exact h2⟩
   ·have t:=h1;rw[σ o' ht]at t;have J:=h2;rw[hβ2lt o' g' (h.objs _ _ _ t).1]at J;exact .inl ⟨.inr ⟨o',g',x',t,J⟩,fun S=>ht (ξ o' g' x' b t J S)⟩
 have τ:∀o g q,ρ2.get o g=some q->β2 q.1 q.2=β1 o g/\q.2<(s.V.app ch).cn q.1:=fun o g q j=>by
  obtain⟨x,hm⟩:=(N.n2 _ _ _ j).1;obtain⟨q',y,h1,h2,l,n⟩:=a1 o g x hm;rw[j]at h1;simp at h1;subst h1;exact⟨hβ2q _ _ _ j,n⟩
 refine⟨u,r',ch,β2,he,hK,?_,e8.ren (fun b _ hb=>M b hb) τ hr⟩;refine BZ.call h H T e1 e2 e3 e4 e5 (fun b hb=>?_) ξ a3 hβ2lt σ (fun o' g' y' ht t=>?_) (fun o1 o2 g1 g2 x1 x2 b t1 t2 h1 h2 l n=>?_)
 ·obtain⟨o,g,x,q,y,hm,j,l,n⟩:=Y b hb;exact⟨_,_,_,l,n⟩
 ·obtain⟨o,g,x,hm,j,hy,ψ⟩:=G ht t;have X:β2 o' g'=β1 o g:=hβ2q _ _ _ j;refine⟨ψ,?_,fun b hb=>?_,fun hl=>?_,oQ hy⟩
  ·rw[X];exact(O.objs o g x hm).2.ren (fun b _ hb=>M b hb) τ hy
  ·rw[X]at hb;obtain⟨k1,k2⟩:=O.home o g x b hm hb;refine⟨k1,fun hf=>k2 (Z b hf),?_⟩;rw[L];exact e7 o g x b hm hb
  ·cases hro:ρ.get o g with
   |some q =>
    obtain⟨hlo,rfl⟩:=N.both hro j;obtain⟨x0,R⟩:=(N.n1 _ _ _ hro).2.1;obtain⟨q2,y2,k1,_,k3,_⟩:=m o g x0 R;rw[hro]at k1;simp at k1;subst k1;rw[X,α _ _ _ hro hlo];exact h.pin _ _ _ hl k3
   |none =>
    have k4:=((N.n2 _ _ _ j).2 hro).1;simp only at k4;omega
 ·obtain⟨o,g,x,hm,j,_,_⟩:=G t1 h1;obtain⟨o',g',x',ζ,B,_,_⟩:=G t2 h2;rw[show β2 o1 g1=β1 o g from hβ2q _ _ _ j]at l;rw[show β2 o2 g2=β1 o' g' from hβ2q _ _ _ B]at n;obtain⟨rfl,rfl⟩:=O.sep _ _ _ _ _ _ b hm ζ l n;rw[j]at B;simp at B;exact B.1
end
end Go.Pw
end
section
namespace Go.Pw
open Go.RowKit
def Jk.val(sl:Nat->AV):Jk->AV
 |.t n=>sl n
 |.k v=>v
section
variable {E:CW}{c:EG}{β:Nat->Nat->Value}{s:BG}{tm:Array Value}{w:World}{K:AV->Bs->Prop}
theorem LD{a:Act}(h:BZ E c β s a.tmps w){x:Operand}{y:Jk}(hd:UO E x=some y):AP w (c.bar β s.V) β s.V.cn (y.val s.sl) (a.eval x):=by
 unfold UO at hd;split at hd
 ·simp at hd;subst hd;exact h.slots _
 ·rename_i v
  cases hv:Rq v with
  |none=>simp[hv]at hd
  |some d=>simp[hv]at hd;subst hd;exact .d _ _ (JH hv)
 ·rename_i g
  cases hv:E.G g with
  |none=>simp[hv]at hd
  |some cs=>simp[hv]at hd;subst hd;exact .d _ _ (h.glob g cs hv)
 ·simp at hd;subst hd;exact .fn _ [] #[] (by simp) (fun i c v hi=>by simp at hi)
theorem TA{a:Act}(h:BZ E c β s a.tmps w){xs:List Operand}{ys:List Jk}(hd:X8 E xs=some ys):C_ (AP w (c.bar β s.V) β s.V.cn) (ys.map (Jk.val s.sl)) (xs.map a.eval):=by
 refine⟨by simp[Af hd],fun i x u hx hu=>?_⟩;simp only[j4,ck]at hx hu;obtain⟨y,e,rfl⟩:=hx;obtain⟨o,ho,rfl⟩:=hu;obtain⟨j,h1,h2⟩:=C7 hd ho;rw[e]at h1;simp at h1;subst h1;exact LD h h2
def ABT(E:CW)(c:EG)(s:BG)(tm:Array Value)(K:AV->Bs->Prop)(f:FuncId)(args:Array Value)(w:World):Prop :=
 Calls E.P f args w fun e w''=>∃u v ch β',e=.returned u/\K v ch/\BZ E c β' ⟨s.sl,s.V.app ch⟩ tm w''/\AP w'' (c.bar β' (s.V.app ch)) β' (s.V.app ch).cn v u
theorem YU{fb β' cn}{r:D}{v:Value}(h:Ar w fb r v):AP w fb β' cn (up r) v:=by
 unfold up;split
 ·rename_i xs
  cases h with
  |tup _ vs hl h =>
   refine .tup _ _ (by simpa using hl) fun i x u hx hu=>?_
   simp only[j4,ck]at hx;obtain⟨y,e,rfl⟩:=hx;exact .d _ _ (h i y u e hu)
 ·exact .d _ _ h
theorem B3.of_prim{w:World}{fb fb':Nat->Prop}{ety es:Nat}{nl:Bool}{l:List D}{v:Value}(hp:MA l=true)(h:B3 w fb ety es nl l v):B3 w fb' ety es nl l v:=by
 rcases h with h|⟨h1,b,off,cap,cur,h2,z,q,r,y,t,n,e,o⟩
 ·exact .inl h
 ·refine .inr ⟨h1,b,off,cap,cur,h2,z,q,r,y,t,n,e,fun i x j c hi m=>?_⟩;obtain⟨u,hu,hd⟩:=o i x j c hi m;refine⟨u,hu,hd.of_prim ?_⟩;unfold MA at hp;exact Uq (Uq (p:=fun x:D=>x.cells.all D.prim) hp hi) m
theorem VE(h:BZ E c β s tm w){dst:Option Nat}{f:FuncId}{xs:List AV}{us:Array Value}(hxs:C_ (AP w (c.bar β s.V) β s.V.cn) xs us.toList)(q:DW E dst s.V f xs K):ABT E c s tm K f us w:=by
 rcases q with⟨ds,r,hd,hret,hK⟩|⟨ds,r,hd,hret,hfl,hK⟩|⟨ds,t,ety,es,P,x,rfl,htl,hd,hret,hx,hK⟩|⟨V0,cxs,V1,r,r',ch,ρ,ρ2,hren,hcall,hhand,hnm,hr,hback,hK⟩|⟨o,g,ety,es,nl,l,ds,r,hget,hlim,hcf,hd,hret,hK⟩
 ·refine(hret w (c.bar β s.V) us (fun b hb=>JQ h hb) h.glob (by have:=hxs.1;rw[Af hd,←this];simp) fun i d v hi hv=>?_).mono fun e w' ⟨v,q,hb,hr⟩=>⟨v,_,.none,β,q,hK,h.grow hb,YU hr⟩
  obtain⟨x,hx,j⟩:=BC hd hi;exact(B' (hxs.2 i x v hx (by simpa using hv)) j).1
 ·refine(hret w c.fb us (fun b hb=>JQ h (.inl hb)) (fun g cs hg=>(h.glob g cs hg).mono (Aq.refl _ _) fun b _ hb=>.inl hb) (by have:=hxs.1;rw[Af hd,←this];simp) fun i d v hi hv=>?_).mono fun e w' ⟨v,q,hb,hr⟩=>⟨v,_,.none,β,q,hK,h.grow hb,YU (hr.of_flat hfl)⟩
  obtain⟨x,hx,j⟩:=BC hd hi;exact XZ h (hxs.2 i x v hx (by simpa using hv)) j
 ·have hc:Calls E.P f us w fun e w'=>∃v,e=.returned v/\Below w.heap.size w w'/\(∀b,C4 v b->w.heap.size<=b)/\∃nl l,P nl l/\B3 w' (fun b=>c.bar β s.V b\/C4 v b) ety es nl l v:=by
   rcases hd with hd|⟨hd,N⟩
   ·refine(hret w (c.bar β s.V) us (fun b hb=>JQ h hb) h.glob (by have:=hxs.1;rw[Af hd,←this];simp) fun i d v hi hv=>?_).mono fun e w' hh=>hh
    obtain⟨x,hx,j⟩:=BC hd hi;exact(B' (hxs.2 i x v hx (by simpa using hv)) j).1
   ·refine(hret w c.fb us (fun b hb=>JQ h (.inl hb)) (fun g cs hg=>(h.glob g cs hg).mono (Aq.refl _ _) fun b _ hb=>.inl hb) (by have:=hxs.1;rw[Af hd,←this];simp) fun i d v hi hv=>?_).mono fun e w' ⟨v,q,hb,A,nl,l,hp,hr⟩=>⟨v,q,hb,A,nl,l,hp,hr.of_prim (N nl l hp)⟩
    obtain⟨x,hx,j⟩:=BC hd hi;exact XZ h (hxs.2 i x v hx (by simpa using hv)) j
  refine hc.mono fun e w' ⟨v,q,hb,A,nl,l,hp,hr⟩=>?_
  have z:∀b,C4 v b->b<w'.heap.size:=by
   intro b n;rcases hr with⟨_,_,rfl⟩|⟨_,b',off,cap,cur,rfl,p,_⟩
   ·simp[C4,A9]at n
   ·simp[C4,A9]at n;subst n;exact(r5.1 p).1
  have h1:v.oneCell'=true:=by
   rcases hr with⟨_,_,rfl⟩|⟨_,b',off,cap,cur,rfl,p,_⟩<;>rfl
  refine⟨v,_,_,Eh β t (s.V.cn t) v,q,hK,h.fresh htl (.of_below _ hb) (fun b n=>⟨z b n,.inl (A b n)⟩) (fun β' fb' hβ' J T=>?_) (hnh:=by rcases hx with rfl|⟨_,_,rfl,_⟩<;>rfl),AP.own_new h1 (G1 _ _ _)⟩;have B:B3 w' fb' ety es nl l v:=hr.mono (Aq.refl _ _) (fun b G hh=>?_) fun _ _ _=>rfl
  ·rcases hx with rfl|⟨nl',S,rfl,hx⟩
   ·exact .rowP _ _ _ _ _ _ hp B
   ·obtain⟨rfl,rfl⟩:=hx nl l hp;exact .row _ _ _ _ _ B
  subst hβ' J;rcases hh with hh|⟨o',g',x',h2,p⟩
  ·exact .inl (.inl hh)
  ·by_cases ho:o'=t
   ·subst ho;simp[AO.app,CB]at h2;obtain⟨rfl,_⟩:=h2;rw[BM]at p;exact .inr p
   ·simp[AO.app,CB,ho]at h2;have:=(h.objs o' g' x' h2).1;rw[FK o' g' this]at p;exact .inl (.inr ⟨o',g',x',h2,p⟩)
 ·exact bB h (by simpa using hxs.1) (fun i x v hx hv=>hxs.2 i x v hx (by simpa using hv)) hren hcall hhand hnm hr hback hK
 ·have y:=AO.get_some hget
  have h':BZ E c (Eh β o (s.V.cn o) (.slice none 0 0)) ⟨s.sl,s.V.app (.fresh o (.row ety es true []))⟩ tm w:=h.fresh (o:=o) (x:=.row ety es true []) (vo:=.slice none 0 0) hlim ⟨rfl,rfl,rfl,az _,fun _ _ _=>rfl⟩
   (fun b hb=>by simp[C4,A9]at hb) (fun β' fb' _ _ _=>.row _ _ _ _ _ (.inl ⟨rfl,rfl,rfl⟩))
  have m:∀b,c.bar (Eh β o (s.V.cn o) (.slice none 0 0)) (s.V.app (.fresh o (.row ety es true []))) b->c.bar β s.V b/\¬C4 (β o g) b:=fun b hb=>by
   rcases hb with hb|⟨o',g',x',h2,p⟩
   ·exact⟨.inl hb,fun L=>(h.home o g _ b y L).2.2 hb⟩
   ·by_cases ho:o'=o
    ·subst ho;simp[AO.app,CB]at h2;obtain⟨rfl,_⟩:=h2;rw[BM]at p;simp[C4,A9]at p
    ·simp[AO.app,CB,ho]at h2;have z:=(h.objs o' g' x' h2).1;rw[FK o' g' z]at p;exact⟨.inr ⟨o',g',x',h2,p⟩,fun L=>ho (h.sep o' o g' g x' _ b h2 y p L)⟩
  refine(hret w _ us (fun b hb=>JQ h' hb) h'.glob (by have:=hxs.1;rw[Af hd,←this];simp) fun i d v hi hv=>?_).mono fun e w' ⟨v,q,hb,hr⟩=>⟨v,_,_,_,q,hK,h'.grow hb,YU hr⟩
  obtain⟨x,hx,j⟩:=BC hd hi;have u:=hxs.2 i x v hx (by simpa using hv);unfold ABJ at j;split at j
  ·split at j
   ·rename_i M;obtain⟨rfl,rfl⟩:=M
    cases j
    obtain⟨_,ho⟩:=h.objs _ _ _ y
    cases u with
    |own _ _ R O =>
     generalize hv2:β _ _=v at ho m
     cases ho with
     |row _ _ _ _ _ ho =>
      exact Cq (ho.mono (Aq.refl _ _) (fun b _ hb=>(m b hb).1) fun _ _ _=>rfl) fun b hb G=>(m b G).2 hb
   ·cases j
  ·exact(B' u j).1.mono (Aq.refl _ _) fun b _ hb=>(m b hb).1
theorem Ia{f:FuncId}(e:BA E.P f=true)(args:Array Value):(callFunc f args).run E.P w=.ok (.enter f args) w:=by
 unfold BA at e;split at e
 ·rename_i fn h;simp only[ea,bne_iff_ne,ne_eq]at e;have h2:¬fn.body=none:=by intro hb;simp[hb]at e
  simp[callFunc,h,e.2,h2]
 ·cases e
theorem cJ{f:FuncId}{args:Array Value}{r:Result Next}(hr:r=.ok (.enter f args) w)(h:ABT E c s tm K f args w):dt E c s tm K r:=.inr ⟨f,args,w,hr,h⟩
theorem DG{m:Sem Value}(h:JU E c s tm K (m.run E.P w)):dt E c s tm K ((do let v ←m;pure (Next.value v):Sem Next).run E.P w):=by
 obtain⟨u,w',v,ch,β',hr,e,h1,h2⟩:=h;exact .inl ⟨u,w',v,ch,β',.inl (by simp[hr]),e,h1,h2⟩
theorem Ve{m:Sem Unit}(h:w9 E c s tm K (m.run E.P w)):dt E c s tm K ((do m;pure Next.skip:Sem Next).run E.P w):=by
 obtain⟨w',ch,β',hr,e,h1⟩:=h;exact .inl ⟨undef,w',.undef,ch,β',.inr ⟨by simp[hr],rfl⟩,e,h1,.undef _⟩
theorem Eb(h:BZ E c β s tm w){m:Sem Value}(hh:∃r,m.run E.P w=.ok r w/\∃v,K v .none/\AP w (c.bar β s.V) β s.V.cn v r):dt E c s tm K ((do let v ←m;pure (Next.value v):Sem Next).run E.P w):=by
 obtain⟨r,hr,v,e,hv⟩:=hh;exact C1 h e (by simp[hr]) hv
theorem JI{us:List Value}{x:AV}{R:AV->Value->Prop}(h:C_ R [x] us):∃u,us=[u]/\R x u:=by
 obtain⟨u,us',rfl,h1,h2⟩:=h.cons';have:=h2.nil;subst this;exact⟨u,rfl,h1⟩
theorem ZZ{us:List Value}{x y:AV}{R:AV->Value->Prop}(h:C_ R [x,y] us):∃u v,us=[u,v]/\R x u/\R y v:=by
 obtain⟨u,us',rfl,h1,h2⟩:=h.cons';obtain⟨v,rfl,e⟩:=JI h2;exact⟨u,v,rfl,h1,e⟩
theorem q_{us:List Value}{x y z:AV}{R:AV->Value->Prop}(h:C_ R [x,y,z] us):∃u v t,us=[u,v,t]/\R x u/\R y v/\R z t:=by
 obtain⟨u,us',rfl,h1,h2⟩:=h.cons';obtain⟨v,t,rfl,i,e⟩:=ZZ h2;exact⟨u,v,t,rfl,h1,i,e⟩
theorem nS(h:BZ E c β s tm w){dst:Option Nat}{u:UnOp}{xs:List AV}{x:Value}(hx:C_ (AP w (c.bar β s.V) β s.V.cn) xs [x])(e:ev E dst s.V (.un u) xs K):∃r,(Op.unary u x).run E.P w=.ok r w/\∃v,K v .none/\AP w (c.bar β s.V) β s.V.cn v r:=by
 unfold ev at e;simp only at e;split at e
 ·obtain⟨u,hu,h1⟩:=JI hx;simp at hu;subst hu;rw[Qn h1];exact⟨_,by simp[Op.unary],_,e,Ly⟩
 ·obtain⟨u,hu,h1⟩:=JI hx;simp at hu;subst hu;obtain⟨rfl,_⟩:=BQ h1;exact⟨_,by simp[Op.unary,Op.intArith],_,e,Ew (LZ _ _)⟩
 ·obtain⟨u,hu,h1⟩:=JI hx;simp at hu;subst hu;obtain⟨rfl,_⟩:=BQ h1;exact⟨_,by simp[Op.unary,Op.intBits,Ah],_,e,Ew (LZ _ _)⟩
 ·exact e.elim
theorem eV(h:BZ E c β s tm w){dst:Option Nat}{j ty:TypeId}{k k':IntKind}{x:AV}{u:Value}(hs:E.P.underlying j=some (.int k'))(ht:E.P.underlying ty=some (.int k))(hx:AP w (c.bar β s.V) β s.V.cn x u)(i:ev E dst s.V (.conv k) [x] K) :
  ∃r,(convert j ty u).run E.P w=.ok r w/\∃v,K v .none/\AP w (c.bar β s.V) β s.V.cn v r:=by
 unfold ev at i;simp only at i;split at i
 ·rename_i e;simp at e;subst e;obtain⟨rfl,_⟩:=BQ hx;exact⟨_,by simp[convert,run_underlying hs,run_underlying ht,Conv.intToInt],_,i,Ew (LZ _ _)⟩
 ·exact i.elim
theorem Wl{dst:Option Nat}{i:Nat}{x:AV}{u:Value}(hx:AP w (c.bar β s.V) β s.V.cn x u)(e:ev E dst s.V (.extract i) [x] K) :
  ∃r,(Instr.extract u i).run E.P w=.ok r w/\∃v,K v .none/\AP w (c.bar β s.V) β s.V.cn v r:=by
 unfold ev at e;simp only at e;split at e
 ·rename_i h;simp at h;subst h;split at e
  ·rename_i v hv
   cases hx with
   |tup _ vs hl hh =>
    have j:i<vs.size:=by rw[hl];exact(aa.1 hv).1
    have hg:vs[i]?=some vs[i]:=j0 j;exact⟨vs[i],by simp[Instr.extract,hg],v,e,hh i v _ hv hg⟩
  ·exact e.elim
 ·exact e.elim
theorem XT(h:BZ E c β s tm w){dst:Option Nat}{t ty:TypeId}{x:AV}{u:Value}{m:Bool}(ht:if m then(∃k e,E.P.underlying t=some (.map k e))else ∃e,E.P.underlying t=some (.slice e))(hx:AP w (c.bar β s.V) β s.V.cn x u)(j:ev E dst s.V (.len m) [x] K) :
  ∃r,(Builtin.len_ #[t] ty #[u]).run E.P w=.ok r w/\∃v,K v .none/\AP w (c.bar β s.V) β s.V.cn v r:=by
 have small:∀{n:Nat},n<=maxLen->N7 .i64 (n:Int):=fun {n} hn=>by unfold maxLen at hn;simp[N7,IntKind.min,IntKind.max,IntKind.signed,IntKind.bits];omega
 have listCase:∀{nl:Bool}{l:List D},x.asList s.V=some (nl,l)->K (.d (.int .i64 l.length)) .none->(∃e,E.P.underlying t=some (.slice e))->∃r,(Builtin.len_ #[t] ty #[u]).run E.P w=.ok r w/\∃v,K v .none/\AP w (c.bar β s.V) β s.V.cn v r:=by
  intro nl l hl p ⟨e,i⟩;have hd:=WK h hx hl
  cases hd with
  |nil=>exact⟨.int .i64 0,by simp[Builtin.len_,run_underlying i,goInt],_,p,by simpa using Ew (small (n:=0) (by simp))⟩
  |empty a cap hm=>exact⟨.int .i64 0,by simp[Builtin.len_,run_underlying i,goInt],_,p,by simpa using Ew (small (n:=0) (by simp))⟩
  |list _ es b off cap vs hcap hm=>exact⟨.int .i64 l.length,by simp[Builtin.len_,run_underlying i,goInt],_,p,Ew (small (by omega))⟩
 unfold ev at j;simp only at j
 cases m with
 |true =>
  obtain⟨k,e,ht⟩:=ht;simp only[if_true]at j;split at j
  ·rename_i o g;split at j
   ·rename_i kvs hg;obtain⟨hb,p⟩:=j
    cases hx with
    |map _ _ G B =>
     obtain⟨_,ho⟩:=h.objs _ _ _ (AO.get_some hg);generalize hv:β o g=v at ho ⊢
     cases ho with
     |map tys kvs b es q hl hh =>
      refine⟨.int .i64 kvs.length,by simp[Builtin.len_,run_underlying ht,CQ q,goInt,hl],_,p,?_⟩;exact Ew (small (by unfold Ch at hb;unfold maxLen;omega))
   ·exact j.elim
  ·rename_i kvs;obtain⟨hb,p⟩:=j
   cases hx with|d _ _ hx =>
   cases hx with
   |map tys kvs b es cl J q hl hr L M y =>
    refine⟨.int .i64 kvs.length,by simp[Builtin.len_,run_underlying ht,CQ q,goInt,hl],_,p,?_⟩;exact Ew (small (by unfold Ch at hb;unfold maxLen;omega))
  ·exact j.elim
 |false =>
  simp only[wj,if_false]at j ht;split at j
  ·rename_i n hl;unfold AV.lenL at hl;split at hl
   ·rename_i off N cap o g;simp only[Option.some.injEq]at hl;subst hl;obtain⟨e,i⟩:=ht
    cases hx with|mref _ _ _ u hlt hm hu1 =>
    obtain⟨b,hb,hu,hn⟩:=ic hm;subst hu;exact⟨.int .i64 N,by simp[Builtin.len_,run_underlying i,goInt],_,j,Ew (small (by unfold maxLen;omega))⟩
   ·rename_i o g;split at hl
    ·rename_i e1 e2 nl ix rows hg;simp only[Option.some.injEq]at hl;subst hl;obtain⟨e,i⟩:=ht
     cases hx with|mref _ _ _ u hlt hm hu1 =>
     have ho:=(h.objs _ _ _ (AO.get_some hg)).2;generalize β o g=v at hm ho
     cases ho with|mat _ _ _ _ _ _ ho =>
     obtain⟨O,vs,y,A,h0,_⟩:=ho;subst y;simp only[Ei,Bn,uk,Option.some.injEq]at hm;subst hm;rcases h0 with⟨_,h2,h3⟩|⟨_,b,off,cap,cur,h2,h3,h4,h5,_⟩
     ·subst h2 h3;exact⟨.int .i64 0,by simp[Builtin.len_,run_underlying i,goInt],_,j,by simpa using Ew (small (n:=0) (by simp))⟩
     ·subst h2;exact⟨.int .i64 ix.length,by simp[Builtin.len_,run_underlying i,goInt],_,j,Ew (small (by omega))⟩
    ·cases hl
   ·split at hl
    ·rename_i nl l z;simp only[Option.some.injEq]at hl;subst hl;exact listCase z j ht
    ·cases hl
  ·exact j.elim
theorem AAi{k:IntKind}(isMax:Bool){a b:Int}(e:N7 k a)(hb:N7 k b):N7 k (if isMax then uT a b else uS a b):=by
 cases isMax<;>simp only[if_true,if_false,wj,uT,uS]<;>split<;>assumption
theorem f6{isMax:Bool}{k:IntKind}:∀{e:List AV}{us:List Value}{a r:Int},N7 k a->C_ (AP w (c.bar β s.V) β s.V.cn) e us->Gv isMax k a e=some r ->
  (us.foldlM (if isMax then Builtin.max2 else Builtin.min2) (.int k a)).run E.P w=.ok (.int k r) w/\N7 k r:=by
 intro e
 induction e with
 |nil =>
  intro us a r j hu i;have:=hu.nil;subst this;simp[Gv]at i;subst i;exact⟨by simp,j⟩
 |cons x e ih =>
  intro us a r j hu i;obtain⟨u,us',rfl,h1,h2⟩:=hu.cons';unfold Gv at i;split at i
  ·rename_i h;cases h
  ·rename_i h;simp at h;obtain⟨rfl,rfl⟩:=h;split at i
   ·rename_i hk;subst hk;obtain⟨rfl,hb⟩:=BQ h1;obtain⟨l,m⟩:=ih (AAi isMax j hb) h2 i;refine⟨?_,m⟩;rw[List.foldlM_cons]
    cases isMax<;>simp only[if_true,if_false,wj]at l ⊢
    ·simp only[Builtin.min2,Sem.run_bind,Sem.run_pure,Result.andThen_ok];exact l
    ·simp only[Builtin.max2,Sem.run_bind,Sem.run_pure,Result.andThen_ok];exact l
   ·cases i
  ·cases i
theorem TT{f:FuncId}{cap args:Array Value}:(Deferred.ofValue (.func (.func f) #[] cap) args).run E.P w=.ok { target:=.fn (.func f) cap,args:=args } w:=by
 simp[Deferred.ofValue]
theorem M7(h:BZ E c β s tm w){dst:Option Nat}{f:FuncId}{xs:List AV}{us cap:Array Value}{cs:List AV}(l:BA E.P f=true)(hxs:C_ (AP w (c.bar β s.V) β s.V.cn) xs us.toList)
  (e:C_ (AP w (c.bar β s.V) β s.V.cn) cs cap.toList) (m:DW E dst s.V f (xs++cs) K) :
  dt E c s tm K ((do let d ←Deferred.ofValue (.func (.func f) #[] cap) us;invoke d.target d.args:Sem Next).run E.P w):=by
 refine cJ (args:=us++cap) (by simp[TT,invoke,Ia l]) (VE h (dst:=dst) ⟨by have h1:=hxs.1;have h2:=e.1;simp at *;omega,fun i x u hx hu=>?_⟩ m);have h1:=hxs.1;rw[qAC]at hu
 by_cases j:i<xs.length
 ·rw[ax j]at hx;rw[ax (by omega)]at hu;exact hxs.2 i x u hx hu
 ·rw[ay (by omega)]at hx;rw[ay (by omega),h1]at hu;exact e.2 _ x u hx hu
theorem Yt{f:FuncId}{pre args:Array Value}:(Deferred.ofValue (.func (.func f) pre #[]) args).run E.P w=.ok { target:=.fn (.func f) #[],args:=pre++args } w:=by
 simp[Deferred.ofValue]
theorem TR(h:BZ E c β s tm w){dst:Option Nat}{f:FuncId}{xs:List AV}{us pre:Array Value}{cs:List AV}(l:BA E.P f=true)(hxs:C_ (AP w (c.bar β s.V) β s.V.cn) xs us.toList)
  (e:C_ (AP w (c.bar β s.V) β s.V.cn) cs pre.toList) (m:DW E dst s.V f (cs++xs) K) :
  dt E c s tm K ((do let d ←Deferred.ofValue (.func (.func f) pre #[]) us;invoke d.target d.args:Sem Next).run E.P w):=by
 refine cJ (args:=pre++us) (by simp[Yt,invoke,Ia l]) (VE h (dst:=dst) ⟨by have h1:=hxs.1;have h2:=e.1;simp at *;omega,fun i x u hx hu=>?_⟩ m);have h1:=e.1;rw[qAC]at hu
 by_cases j:i<cs.length
 ·rw[ax j]at hx;rw[ax (by omega)]at hu;exact e.2 i x u hx hu
 ·rw[ay (by omega)]at hx;rw[ay (by omega),h1]at hu;exact hxs.2 _ x u hx hu
theorem bA(h:BZ E c β s tm w){dst:Option Nat}{x:AV}{xs:List AV}{u:Value}{us:Array Value}(hx:AP w (c.bar β s.V) β s.V.cn x u)(hxs:C_ (AP w (c.bar β s.V) β s.V.cn) xs us.toList)(j:ev E dst s.V .callv (x::xs) K) :
  dt E c s tm K ((do let d ←Deferred.ofValue u us;invoke d.target d.args:Sem Next).run E.P w):=by
 unfold ev at j;simp only at j;split at j
 ·rename_i f cs args e;simp at e;obtain⟨rfl,rfl⟩:=e
  cases hx with
  |fn _ _ vs hl hh=>exact M7 h j.1 hxs ⟨by simpa using hl,fun i x u hx hu=>hh i x u hx (by simpa using hu)⟩ j.2
 ·rename_i f cs args e;simp at e;obtain⟨rfl,rfl⟩:=e
  cases hx with
  |d _ _ hx=>cases hx with
   |fn _ _ vs hl hh =>
    refine M7 h j.1 hxs ⟨by simpa using hl,fun i x u hx hu=>?_⟩ j.2;simp only[j4,ck]at hx;obtain⟨y,l,rfl⟩:=hx;exact .d _ _ (hh i y u l (by simpa using hu))
 ·rename_i f cs args e;simp at e;obtain⟨rfl,rfl⟩:=e
  cases hx with
  |bnd _ _ vs hl hh=>exact TR h j.1 hxs ⟨by simpa using hl,fun i x u hx hu=>hh i x u hx (by simpa using hu)⟩ j.2
 ·rename_i f cs args e;simp at e;obtain⟨rfl,rfl⟩:=e
  cases hx with
  |d _ _ hx=>cases hx with
   |bnd _ _ vs hl hh =>
    refine TR h j.1 hxs ⟨by simpa using hl,fun i x u hx hu=>?_⟩ j.2;rw[j4]at hx;simp only[ck]at hx;obtain⟨m,h0,rfl⟩:=hx;exact .d _ _ (hh i m u h0 (by simpa using hu))
 ·exact j.elim
theorem XU(h:BZ E c β s tm w){dst:Option Nat}{op:BinOp}{t:TypeId}{tys:LW}{m n:Operand}{x y:AV}{u v:Value}(ht:C5 E.P t=some tys)(j:tys.1=true)(l:op=.eql\/op=.neq)
  (hx:AP w (c.bar β s.V) β s.V.cn x u) (p:AP w (c.bar β s.V) β s.V.cn y v) (i:ev E dst s.V (.eqv (op == .neq) tys) [x,y] K) :
  ∃r,(do eqGuard op t m n u v;binOp op t u v:Sem Value).run E.P w=.ok r w/\∃v,K v .none/\AP w (c.bar β s.V) β s.V.cn v r:=by
 unfold ev at i;simp only at i;split at i
 ·rename_i a b q hb;obtain⟨h1,h2,o⟩:=i;have hu:=(B' hx q).1;have hv:=(B' p hb).1;obtain⟨us,vs,rfl,rfl,hg⟩:=W2 ht h1 h2 hu hv j op m n;have e:=L7 ht h1 h2 hu hv;have e1:(BinOp.eql == BinOp.neq)=false:=rfl;have e2:(BinOp.neq == BinOp.neq)=true:=rfl;refine⟨.bool (if op == .neq then !D2 a b else D2 a b),?_,_,o,Ly⟩;rcases l with rfl|rfl
  ·simp[hg,binOp,e,e1]
  ·simp[hg,binOp,e,e2]
 ·exact i.elim
theorem a9(h:BZ E c β s tm w){dst:Option Nat}{op:BinOp}{t e:TypeId}{o p:Operand}{x:AV}{u:Value}(ht:E.P.underlying t=some (.slice e))(j:op=.eql\/op=.neq)
  (hx:AP w (c.bar β s.V) β s.V.cn x u) (i:ev E dst s.V (.eqnil (op == .neq)) [x,.d (.list true [])] K) :
  ∃r,(do eqGuard op t o p u (.slice none 0 0);binOp op t u (.slice none 0 0):Sem Value).run E.P w=.ok r w/\∃v,K v .none/\AP w (c.bar β s.V) β s.V.cn v r:=by
 unfold ev at i;simp only at i;split at i
 ·rename_i nl l hl;have hd:=WK h hx hl;have key:∃a n m,u=.slice a n m/\a.isNone=nl:=by cases hd<;>exact⟨_,_,_,rfl,rfl⟩
  obtain⟨a,n,m,rfl,rfl⟩:=key;refine⟨.bool (if op == .neq then !a.isNone else a.isNone),?_,_,i,Ly⟩;have e1:(BinOp.eql == BinOp.neq)=false:=rfl;have e2:(BinOp.neq == BinOp.neq)=true:=rfl
  have key:(Op.equal t (.slice a n m) (.slice none 0 0)).run E.P w=.ok a.isNone w:=by
   show(Op.equalIn (9999+1) t (.slice a n m) (.slice none 0 0)).run E.P w=_;generalize 9999=d
   cases a<;>simp[Op.equalIn,run_underlying ht]
  rcases j with rfl|rfl<;>simp[eqGuard,binOp,key,e1,e2]
 ·exact i.elim
theorem eW(h:BZ E c β s tm w){dst:Option Nat}{op:BinOp}{t:TypeId}{m n:Operand}{xs:List AV}{u v:Value}
  (hxs:C_ (AP w (c.bar β s.V) β s.V.cn) xs [u,v]) (i:ev E dst s.V (.bin op) xs K) {l:Sem Value->Sem Next}(j:l=fun s=>do pure (.value (←s))) :
  dt E c s tm K ((l (do eqGuard op t m n u v;binOp op t u v)).run E.P w):=by
 unfold ev at i;simp only at i;split at i
 ·obtain⟨p,o,e,h1,h2⟩:=ZZ hxs;simp at e;obtain⟨rfl,rfl⟩:=e;exact jq h h1 h2 i j
 ·exact i.elim
end
end Go.Pw
end
section
namespace Go.Pw
open Go.RowKit
section
variable {E:CW}{c:EG}{β:Nat->Nat->Value}{s:BG}{a:Act}{w:World}{K:AV->Bs->Prop}
theorem Xz{tm:Array Value}(h:BZ E c β s tm w){isMax:Bool}{dst:Option Nat}{x:Operand}{j:List Operand}{xs:List AV}(hxs:C_ (AP w (c.bar β s.V) β s.V.cn) xs ((x::j).map a.eval))(e:ev E dst s.V (.minmax isMax) xs K){m:Sem Next}
  (hm:m.run E.P w=(do let v ←(j.map a.eval).foldlM (if isMax then Builtin.max2 else Builtin.min2) (a.eval x);pure (Next.value v):Sem Next).run E.P w):dt E c s tm K (m.run E.P w):=by
 rw[hm];unfold ev at e;simp only at e;split at e
 ·obtain⟨u,us',i,h1,h2⟩:=hxs.cons';simp only[hY,List.cons.injEq]at i;obtain⟨rfl,rfl⟩:=i;split at e
  ·rename_i r hr;obtain⟨l,n⟩:=BQ h1;rw[l];obtain⟨p,o⟩:=f6 (E:=E) n h2 hr;exact C1 h e (by simp only[Sem.run_bind,p,Result.andThen_ok,Sem.run_pure]) (Ew o)
  ·exact e.elim
 ·exact e.elim
theorem Yn(h:BZ E c β s a.tmps w){draw:Bool}{o:Oper}{cl:Call}{J:Bx}{ops:List Operand}{xs:List AV}(Y:o.op=.call cl)(hd:Lu E draw cl=some (J,ops))
  (hxs:C_ (AP w (c.bar β s.V) β s.V.cn) xs (ops.map a.eval)) (p:ev E o.dst s.V J xs K):dt E c s a.tmps K ((execOp a.eval o).run E.P w):=by
 have X:execOp a.eval o=(do let d ←resolve a.eval cl o.type;invoke d.target d.args):=by simp[execOp,Y]
 rw[X];obtain⟨callee,args,argTypes⟩:=cl
 have valueCase:∀x,callee=.value x->J=.callv->ops=x::args.toList->dt E c s a.tmps K (((do let d ←resolve a.eval ⟨callee,args,argTypes⟩ o.type;invoke d.target d.args:Sem Next)).run E.P w):=by
  intro x hc h1 h2;subst hc h1 h2;simp only[hY]at hxs
  cases xs with
  |nil=>exact absurd hxs.1 (by simp)
  |cons y ys =>
   have hc:=hxs.cons;have:=bA (us:=args.map a.eval) (dst:=o.dst) h hc.1 (by simpa using hc.2) p;simpa[resolve]using this
 have two:∀{x y:Operand},ops=[x,y]->∃r M,xs=[r,M]/\AP w (c.bar β s.V) β s.V.cn r (a.eval x)/\AP w (c.bar β s.V) β s.V.cn M (a.eval y):=by
  intro x y q;subst q
  cases xs with
  |nil=>exact absurd hxs.1 (by simp)
  |cons r ys =>
   cases ys with
   |nil=>exact absurd hxs.1 (by simp)
   |cons M zs =>
    cases zs with
    |cons _ _=>exact absurd hxs.1 (by simp)
    |nil =>
     obtain⟨u,v,l,h1,h2⟩:=ZZ hxs;simp at l;obtain⟨rfl,rfl⟩:=l;exact⟨r,M,rfl,h1,h2⟩
 cases callee with
 |invoke x n=>cases hd
 |value f =>
  cases f with
  |func f =>
   simp only[Lu]at hd;split at hd
   ·rename_i hb;simp at hd;obtain⟨rfl,rfl⟩:=hd;have:=M7 (f:=f) (us:=args.map a.eval) (cap:=#[]) (cs:=[]) (xs:=xs) (dst:=o.dst) h hb (by simpa using hxs) ⟨by simp,by simp⟩ (by simpa[ev]using p);simpa[resolve,Act.eval]using this
   ·cases hd
  |tmp t=>simp[Lu]at hd;exact valueCase _ rfl hd.1.symm hd.2.symm
  |const t=>simp[Lu]at hd;exact valueCase _ rfl hd.1.symm hd.2.symm
  |global t=>simp[Lu]at hd;exact valueCase _ rfl hd.1.symm hd.2.symm
 |builtin b =>
  obtain⟨args⟩:=args;simp only[Lu]at hd
  cases b<;>simp only[V3]at hd<;>try(cases hd;done)
  case len =>
   split at hd<;>try(cases hd;done)
   rename_i x
   have j:∀(t:TypeId),argTypes[0]?=some t->(do let d ←resolve a.eval ⟨.builtin .len,#[x],argTypes⟩ o.type;invoke d.target d.args:Sem Next)=(do let v ←Builtin.len_ #[t] o.type #[a.eval x];pure (Next.value v)):=by
    intro t ht;simp[resolve,invoke,builtin,Builtin.len_,ht]
   have one:ops=[x]->∃r,xs=[r]/\AP w (c.bar β s.V) β s.V.cn r (a.eval x):=by
    intro q;subst q
    cases xs with
    |nil=>exact absurd hxs.1 (by simp)
    |cons y ys =>
     cases ys with
     |cons _ _=>exact absurd hxs.1 (by simp)
     |nil =>
      obtain⟨u,l,h1⟩:=JI hxs;simp at l;subst l;exact⟨y,rfl,h1⟩
   split at hd
   ·rename_i e hu;simp at hd;obtain⟨rfl,rfl⟩:=hd;simp only[cw]at hu;obtain⟨t,ht,hu⟩:=hu;obtain⟨r,rfl,h1⟩:=one rfl;rw[j t ht];exact Eb h (XT h (dst:=o.dst) (m:=false) ⟨_,hu⟩ h1 p)
   ·rename_i k e hu;simp at hd;obtain⟨rfl,rfl⟩:=hd;simp only[cw]at hu;obtain⟨t,ht,hu⟩:=hu;obtain⟨r,rfl,h1⟩:=one rfl;rw[j t ht];exact Eb h (XT h (dst:=o.dst) (m:=true) ⟨_,_,hu⟩ h1 p)
   ·cases hd
  case cap =>
   split at hd<;>try(cases hd;done)
   rename_i x;split at hd<;>try(cases hd;done)
   rename_i e hu;simp at hd;obtain⟨rfl,rfl⟩:=hd;simp only[cw]at hu;obtain⟨t,ht,hu⟩:=hu
   cases xs with
   |nil=>exact absurd hxs.1 (by simp)
   |cons y ys =>
    cases ys with
    |cons _ _=>exact absurd hxs.1 (by simp)
    |nil =>
     obtain⟨u,l,h1⟩:=JI hxs;simp at l;subst l;unfold ev at p;simp only at p;split at p
     ·rename_i R;simp at R;subst R
      have N:a.eval x=.slice none 0 0:=by
       generalize a.eval x=u at h1 ⊢
       cases h1 with|d _ _ hd=>cases hd;rfl
      refine C1 h p ?_ (Ew (n:=0) (k:=.i64) (by simp[N7,IntKind.min,IntKind.max,IntKind.signed,IntKind.bits]));simp[resolve,invoke,builtin,Builtin.cap_,ht,N,run_underlying hu,goInt]
     ·exact p.elim
  case min =>
   split at hd<;>try(cases hd;done)
   rename_i x asq;simp at hd;obtain⟨rfl,rfl⟩:=hd;refine Xz h (isMax:=false) (dst:=o.dst) hxs p ?_;simp[resolve,invoke,builtin,Builtin.min_]
  case max =>
   split at hd<;>try(cases hd;done)
   rename_i x asq;simp at hd;obtain⟨rfl,rfl⟩:=hd;refine Xz h (isMax:=true) (dst:=o.dst) hxs p ?_;simp[resolve,invoke,builtin,Builtin.max_]
  case append =>
   split at hd<;>try(cases hd;done)
   rename_i x y;split at hd<;>try(cases hd;done)
   rename_i e ty hu hv;simp only[cw]at hu hv;obtain⟨t,ht,hu⟩:=hu;obtain⟨tx,Z,hv⟩:=hv;split at hd<;>try(cases hd;done)
   rename_i i z hi hz;split at hd<;>try(cases hd;done)
   rename_i B;obtain⟨A,G,O⟩:=B;simp only[ck]at O;obtain⟨zv,L,S⟩:=O
   have j:(do let d ←resolve a.eval ⟨.builtin .append,#[x,y],argTypes⟩ o.type;invoke d.target d.args:Sem Next)=(do let v ←Builtin.append_ #[t,tx] o.type #[a.eval x,a.eval y];pure (Next.value v)):=by
    have:Builtin.append_ argTypes o.type #[a.eval x,a.eval y]=Builtin.append_ #[t,tx] o.type #[a.eval x,a.eval y]:=by
     simp only[Builtin.append_,ht,Z,c8,uk,hX]
    simp[resolve,invoke,builtin,this]
   split at hd<;>try(cases hd;done)
   ·split at hd<;>try(cases hd;done)
    rename_i e' U;subst U;simp at hd;obtain⟨rfl,rfl⟩:=hd;obtain⟨r,M,rfl,h1,h2⟩:=two rfl;rw[j];exact DG (XV h hu hi L A G S (.inl ⟨rfl,_,hv⟩) h1 h2 p)
   ·split at hd<;>try(cases hd;done)
    rename_i T;simp at hd;obtain⟨rfl,rfl⟩:=hd;obtain⟨r,M,rfl,h1,h2⟩:=two rfl;rw[j];exact DG (XV h hu hi L A G S (.inr ⟨z,rfl,hv,hz,hi,L,T,G⟩) h1 h2 p)
theorem Xu{α γ δ:Type}(f:α->δ)(g:δ->Option γ):∀l:List α,Ax g (l.map f)=Ax (fun x=>g (f x)) l
 |[]=>rfl
 |x::l=>by simp only[hY,Ax,Xu f g l]
theorem VR{P:Program}{t:TypeId}{tys:LW}(h:C5 P t=some tys)(hu:(∃fs,P.underlying t=some (.struct fs))\/∃n e,P.underlying t=some (.array n e)):tys.1=true:=by
 unfold C5 at h;rcases hu with⟨fs,hu⟩|⟨n,e,hu⟩
 ·simp only[hu]at h;split at h
  ·simp only[ck]at h;obtain⟨l,_,rfl⟩:=h;rfl
  ·cases h
 ·simp only[hu]at h;split at h
  ·simp only[ck]at h;obtain⟨l,_,rfl⟩:=h;rfl
  ·cases h
theorem an{i:Nat}{v u:Value}(hs:VC i v=some u):∃e,u=.pointer (some e):=by
 unfold VC at hs;split at hs
 ·simp at hs;exact⟨_,hs.symm⟩
 ·cases hs
theorem ia{i:Nat}{v u:Value}(h:Ei (.xp i) v=some u):∃e,u=.pointer (some e):=by
 cases v with
 |tuple vs =>
  simp only[Ei,cw]at h;obtain⟨x,_,hs⟩:=h;exact an hs
 |_=>simp[Ei]at h
theorem ib{j k:Nat}{v u:Value}(h:Ei (.mp j k) v=some u):∃e,u=.pointer (some e):=by
 cases v with
 |tuple vs =>
  simp only[Ei,cw]at h;obtain⟨x,_,hs⟩:=h;exact an hs
 |_=>simp[Ei]at h
theorem kf(h:BZ E c β s a.tmps w){dst:Option Nat}{x:AV}{u:Value}(hx:AP w (c.bar β s.V) β s.V.cn x u)(i:ev E dst s.V .nilck [x] K){m:Sem Next}
  (hm:∀j,u=.pointer (some j)->m=pure (.value u)):dt E c s a.tmps K (m.run E.P w):=by
 unfold ev at i;simp only at i;have key:∀j,u=.pointer (some j)->K x .none->dt E c s a.tmps K (m.run E.P w):=fun j hu l=>C1 h l (by rw[hm j hu];simp) hx
 split at i
 ·rename_i e;simp at e;subst e
  cases hx with|mref _ _ _ _ _ hm _ =>
  obtain⟨j,rfl⟩:=ia hm;exact key _ rfl i
 ·rename_i e;simp at e;subst e
  cases hx with|mref _ _ _ _ _ hm _ =>
  obtain⟨j,rfl⟩:=ib hm;exact key _ rfl i
 ·rename_i e;simp at e;subst e
  cases hx with|ablk _ _ _ b base vs u hb hne h1 hc hv hu=>subst hu;exact key _ rfl i
 ·rename_i e;simp at e;subst e
  cases hx with|ptr _ _ _ b _ _=>exact key _ rfl i
 ·rename_i e;simp at e;subst e
  cases hx with|rptr=>exact key _ rfl i
 ·rename_i e;simp at e;subst e
  cases hx with|dptr=>exact key _ rfl i
 ·rename_i e;simp at e;subst e
  cases hx with|d _ _ hx=>cases hx with|ptr=>exact key _ rfl (by assumption)
 ·exact i.elim
theorem ow(h:BZ E c β s a.tmps w){draw Y:Bool}{o:Oper}{X:Bx}{ops:List Operand}{xs:List AV}(hd:jB E draw Y o.op=some (X,ops))
  (hxs:C_ (AP w (c.bar β s.V) β s.V.cn) xs (ops.map a.eval)) (l:ev E o.dst s.V X xs K):dt E c s a.tmps K ((execOp a.eval o).run E.P w):=by
 have one:∀{x:Operand},ops=[x]->∃p,xs=[p]/\AP w (c.bar β s.V) β s.V.cn p (a.eval x):=by
  intro x G;subst G
  cases xs with
  |nil=>exact absurd hxs.1 (by simp)
  |cons y ys =>
   cases ys with
   |cons _ _=>exact absurd hxs.1 (by simp)
   |nil =>
    obtain⟨u,J,h1⟩:=JI hxs;simp at J;subst J;exact⟨y,rfl,h1⟩
 have two:∀{x y:Operand},ops=[x,y]->∃p B,xs=[p,B]/\AP w (c.bar β s.V) β s.V.cn p (a.eval x)/\AP w (c.bar β s.V) β s.V.cn B (a.eval y):=by
  intro x y G;subst G
  cases xs with
  |nil=>exact absurd hxs.1 (by simp)
  |cons p ys =>
   cases ys with
   |nil=>exact absurd hxs.1 (by simp)
   |cons B zs =>
    cases zs with
    |cons _ _=>exact absurd hxs.1 (by simp)
    |nil =>
     obtain⟨u,v,J,h1,h2⟩:=ZZ hxs;simp at J;obtain⟨rfl,rfl⟩:=J;exact⟨p,B,rfl,h1,h2⟩
 have three:∀{x y z:Operand},ops=[x,y,z]->∃p B N,xs=[p,B,N]/\AP w (c.bar β s.V) β s.V.cn p (a.eval x)/\AP w (c.bar β s.V) β s.V.cn B (a.eval y)/\AP w (c.bar β s.V) β s.V.cn N (a.eval z):=by
  intro x y z G;subst G
  cases xs with
  |nil=>exact absurd hxs.1 (by simp)
  |cons p ys =>
   cases ys with
   |nil=>exact absurd hxs.1 (by simp)
   |cons B zs =>
    cases zs with
    |nil=>exact absurd hxs.1 (by simp)
    |cons N zs' =>
     cases zs' with
     |cons _ _=>exact absurd hxs.1 (by simp)
     |nil =>
      obtain⟨u,v,t,J,h1,h2,M⟩:=q_ hxs;simp at J;obtain⟨rfl,rfl,rfl⟩:=J;exact⟨p,B,N,rfl,h1,h2,M⟩
 obtain⟨dst,op,ty,pos,after,guard⟩:=o;simp only at l hd
 cases op<;>(try unfold jB at hd)<;>(try simp only at hd)<;>(try(cases hd;done))
 case move x =>
  simp at hd;obtain⟨rfl,rfl⟩:=hd;obtain⟨p,rfl,h1⟩:=one rfl;exact C1 h (by simpa[ev]using l) (by simp[execOp]) h1
 case assign x =>
  simp at hd;obtain⟨rfl,rfl⟩:=hd;obtain⟨p,rfl,h1⟩:=one rfl;exact C1 h (by simpa[ev]using l) (by simp[execOp]) h1
 case pick x y z =>
  simp at hd;obtain⟨rfl,rfl⟩:=hd;obtain⟨p,B,N,rfl,h1,h2,M⟩:=three rfl;obtain⟨b,hb,r,hK,hr⟩:=eS h1 h2 M l;exact C1 h hK (by simp[execOp,hb,asBool]) hr
 case box t x =>
  simp at hd;obtain⟨rfl,rfl⟩:=hd;obtain⟨p,rfl,h1⟩:=one rfl
  cases dst with
  |none=>simp[ev]at l
  |some t=>exact DG (jp h h1 l)
 case alloc e =>
  cases L:LY E.P e with
  |none=>simp[L]at hd
  |some z =>
   simp[L]at hd;obtain⟨rfl,rfl⟩:=hd;have:xs=[]:=rb (by have:=hxs.1;simpa using this.symm);subst this
   cases dst with
   |none=>simp[ev]at l
   |some t=>exact DG (eQ h L l)
 case build t parts =>
  split at hd<;>try(cases hd;done)
  ·rename_i z fs L hu;split at hd<;>try(cases hd;done)
   rename_i places hp;split at hd<;>try(cases hd;done)
   rename_i pl δ;simp at hd;obtain⟨rfl,rfl⟩:=hd;refine DG (TS h (ix:=parts.toList.map (·.1)) L (.inl ⟨fs,places,hu,hp,?_⟩) hxs l (by simpa using OU));rw[Xu];exact δ
  ·rename_i z n e L hu;split at hd<;>try(cases hd;done)
   rename_i sz A;simp at hd;obtain⟨rfl,rfl⟩:=hd;exact DG (TS h (ix:=parts.toList.map (·.1)) L (.inr ⟨n,e,sz,hu,A,by simp⟩) hxs l (by simpa using OU))
 case buildSlice t len parts =>
  split at hd<;>try(cases hd;done)
  rename_i e hu;split at hd<;>try(cases hd;done)
  rename_i z sz L A;split at hd<;>try(cases hd;done)
  rename_i j;obtain⟨q,T,hsmall⟩:=j;simp at hd;obtain⟨rfl,rfl⟩:=hd;unfold HT at A;simp only[ck]at A;obtain⟨ie,S,rfl⟩:=A;split at l
  ·cases dst with
   |none=>simp[ev]at l
   |some t=>exact DG (Yg h hu S L q T.symm hsmall hxs (by simpa using OU) l)
  ·exact DG (au h hu S L q T.symm hsmall hxs (by simpa using OU) l)
 case load t x =>
  split at hd<;>try(cases hd;done)
  rename_i ag n α hn;split at hd<;>try(cases hd;done)
  simp at hd;obtain⟨rfl,rfl⟩:=hd;obtain⟨p,rfl,h1⟩:=one rfl;exact Eb h (VD h α hn h1 l)
 case store t x y =>
  split at hd<;>try(cases hd;done)
  rename_i n hn;split at hd<;>try(cases hd;done)
  rename_i q;simp at hd;obtain⟨rfl,rfl⟩:=hd;obtain⟨p,B,rfl,h1,h2⟩:=two rfl;exact Ve (ap h hn q h1 h2 l)
 case nilCheck x =>
  simp at hd;obtain⟨rfl,rfl⟩:=hd;obtain⟨p,rfl,h1⟩:=one rfl;exact kf h h1 l fun ad hu=>by simp[execOp,hu]
 case binOp b t x y _ =>
  unfold rD at hd
  have O:∀{n},qs b=some n->(b=.eql\/b=.neq)/\n=(b == .neq):=by
   intro n hn
   cases b<;>simp[qs]at hn<;>subst hn<;>simp<;>rfl
  split at hd<;>try(cases hd;done)
  ·rename_i k hu;simp at hd;obtain⟨rfl,rfl⟩:=hd;exact eW h (by simpa using hxs) l rfl
  ·rename_i fs hu;simp only[ck,cw]at hd;obtain⟨n,hn,tys,ht,hd⟩:=hd;obtain⟨hb,rfl⟩:=O hn;simp at hd;obtain⟨rfl,rfl⟩:=hd;obtain⟨p,B,rfl,h1,h2⟩:=two rfl;exact Eb h (XU h (dst:=dst) ht (VR ht (.inl ⟨_,hu⟩)) hb h1 h2 l)
  ·rename_i n' e hu;simp only[ck,cw]at hd;obtain⟨n,hn,tys,ht,hd⟩:=hd;obtain⟨hb,rfl⟩:=O hn;simp at hd;obtain⟨rfl,rfl⟩:=hd;obtain⟨p,B,rfl,h1,h2⟩:=two rfl;exact Eb h (XU h (dst:=dst) ht (VR ht (.inr ⟨_,_,hu⟩)) hb h1 h2 l)
  ·rename_i e hu;simp only[ck]at hd;obtain⟨n,hn,hd⟩:=hd;obtain⟨hb,rfl⟩:=O hn;simp at hd;obtain⟨rfl,rfl⟩:=hd;obtain⟨p,B,rfl,h1,h2⟩:=two rfl
   have γ:B=.d (.list true []):=by
    unfold ev at l;simp only at l;split at l
    ·rename_i U;simp at U;exact U.2
    ·exact l.elim
   subst γ
   have hv:a.eval y=.slice none 0 0:=by
    generalize a.eval y=v at h2
    cases h2 with|d _ _ h2=>cases h2;rfl
   rw[show execOp a.eval ⟨dst,.binOp b t x y _,ty,pos,after,guard⟩=(do let v ←(do eqGuard b t x y (a.eval x) (a.eval y);binOp b t (a.eval x) (a.eval y));pure (Next.value v)) from rfl,hv];exact Eb h (a9 h (dst:=dst) hu hb h1 l)
 case unOp u t x =>
  simp at hd;obtain⟨rfl,rfl⟩:=hd;exact Eb h (nS h (dst:=dst) (by simpa using hxs) l)
 case convert st t x =>
  split at hd<;>try(cases hd;done)
  rename_i k' k hs ht;simp at hd;obtain⟨rfl,rfl⟩:=hd;obtain⟨p,rfl,h1⟩:=one rfl;exact Eb h (eV h (dst:=dst) hs ht h1 l)
 case makeFunc fn first captured =>
  cases fn<;>(try simp only at hd)<;>(try(cases hd;done))
  rename_i f;split at hd
  ·rename_i j;simp at hd;obtain⟨rfl,rfl⟩:=hd;have hfirst:first=#[]:=by apply qAD;exact j.1
   subst hfirst;exact C1 h (by simpa[ev]using l) (by simp[execOp,Instr.makeFunc]) (.fn f _ (captured.map a.eval) (by have:=hxs.1;simpa using this) fun i x u hx hu=>hxs.2 i x u hx (by simpa using hu))
  ·split at hd<;>try(cases hd;done)
   rename_i j;simp at hd;obtain⟨rfl,rfl⟩:=hd;have hcap:captured=#[]:=by apply qAD;exact j.1
   subst hcap;exact C1 h (by simpa[ev]using l) (by simp[execOp,Instr.makeFunc]) (.bnd f _ (first.map a.eval) (by have:=hxs.1;simpa using this) fun i x u hx hu=>hxs.2 i x u hx (by simpa using hu))
 case makeMap t r =>
  cases r with
  |some r=>simp only at hd;cases hd
  |none =>
   simp only at hd;split at hd<;>try(cases hd;done)
   rename_i R e hu
   cases hk:C5 E.P R with
   |none=>simp[hk]at hd
   |some tys =>
    simp[hk]at hd;obtain⟨rfl,rfl⟩:=hd;have:xs=[]:=rb (by have:=hxs.1;simpa using this.symm);subst this
    cases dst with
    |none=>simp[ev]at l
    |some t=>exact DG (av h l)
 case makeSlice t x y =>
  split at hd<;>try(cases hd;done)
  rename_i e hu;split at hd<;>try(cases hd;done)
  rename_i i z hi L;split at hd<;>try(cases hd;done)
  rename_i j;simp at hd;obtain⟨rfl,rfl⟩:=hd;obtain⟨p,B,rfl,h1,h2⟩:=two rfl
  cases dst with
  |none=>simp[ev]at l
  |some t=>exact DG (eU h hu hi L j.1 j.2.1 j.2.2 h1 h2 l)
 case slice t x lo hi mx =>
  split at hd<;>try(cases hd;done)
  case h_2 =>
   rename_i n e hu;split at hd<;>try(cases hd;done)
   split at hd<;>try(cases hd;done)
   rename_i j;simp at hd;obtain⟨rfl,rfl⟩:=hd;obtain⟨p,B,N,rfl,h1,h2,M⟩:=three rfl;refine DG (Yd h hu j.1 j.2 (hv:=a.eval (hi.getD (.const (.int .i64 n)))) (hiv:=hi.map a.eval) ?_ h1 h2 M l)
   cases hi with
   |none=>exact .inr ⟨rfl,rfl⟩
   |some _=>exact .inl rfl
  rename_i e hu;split at hd<;>try(cases hd;done)
  rename_i sz A;split at hd<;>try(cases hd;done)
  rename_i q;simp at hd;obtain⟨rfl,rfl⟩:=hd;simp only[hY]at hxs
  obtain⟨p,ys,rfl⟩:∃p ys,xs=p::ys:=by cases xs with
   |nil=>exact absurd hxs.1 (by simp)
   |cons y ys=>exact⟨y,ys,rfl⟩
  have hc:=hxs.cons
  cases mx with
  |none =>
   refine DG (aq h (lov:=lo.map a.eval) (hiv:=hi.map a.eval) hu A q hc.1 ⟨_,rfl,?_,?_⟩ (by simpa using l))
   ·have:=hc.2.1;cases lo<;>cases hi<;>simpa using this
   ·have:=hc.2.2;cases lo<;>cases hi<;>simpa using this
  |some m =>
   refine DG (Ye h (lov:=lo.map a.eval) (hiv:=hi.map a.eval) (mv:=a.eval m) hu A q hc.1 ⟨_,rfl,?_,?_⟩ (by simpa using l))
   ·have:=hc.2.1;cases lo<;>cases hi<;>simpa using this
   ·have:=hc.2.2;cases lo<;>cases hi<;>simpa using this
 case fieldAddr t x f =>
  split at hd<;>try(cases hd;done)
  rename_i fs hu;simp only[cw]at hd;obtain⟨fd,hf,hd⟩:=hd;split at hd<;>try(cases hd;done)
  rename_i n hn;split at hd<;>try(cases hd;done)
  rename_i q;simp at hd;obtain⟨rfl,rfl⟩:=hd;obtain⟨p,rfl,h1⟩:=one rfl;exact Eb h (aw hu hf hn q h1 l)
 case indexAddr t x i =>
  split at hd<;>try(cases hd;done)
  ·rename_i e hu;split at hd<;>try(cases hd;done)
   rename_i sz A;split at hd<;>try(cases hd;done)
   simp at hd;obtain⟨rfl,rfl⟩:=hd;obtain⟨p,B,rfl,h1,h2⟩:=two rfl;exact Eb h (Yl hu A h h1 h2 l)
  ·rename_i n e hu;split at hd<;>try(cases hd;done)
   rename_i sz A;split at hd<;>try(cases hd;done)
   simp at hd;obtain⟨rfl,rfl⟩:=hd;obtain⟨p,B,rfl,h1,h2⟩:=two rfl;exact Eb h (Ym hu A h1 h2 l)
 case index t x i =>
  split at hd
  ·rename_i hu;split at hd<;>try(cases hd;done)
   simp at hd;obtain⟨rfl,rfl⟩:=hd;obtain⟨p,rfl,h1⟩:=one rfl;exact Eb h (eR h hu h1 l)
  ·cases hd
 case lookup t x k ok =>
  split at hd<;>try(cases hd;done)
  rename_i R e hu;split at hd<;>try(cases hd;done)
  rename_i tys z ht L;simp at hd;obtain⟨rfl,rfl⟩:=hd;obtain⟨p,B,rfl,h1,h2⟩:=two rfl;exact DG (Yk h hu ht L h1 h2 l)
 case mapUpdate t m k v =>
  split at hd<;>try(cases hd;done)
  rename_i R e hu
  cases hk:C5 E.P R with
  |none=>simp[hk]at hd
  |some tys =>
   simp[hk]at hd;obtain⟨rfl,rfl⟩:=hd;obtain⟨p,B,N,rfl,h1,h2,M⟩:=three rfl;exact Ve (Yi h hu hk h1 h2 M l)
 case mapEntry t m k =>
  split at hd<;>try(cases hd;done)
  rename_i R e hu;split at hd<;>try(cases hd;done)
  rename_i tys z ht L;split at hd<;>try(cases hd;done)
  rename_i Z;simp at hd;obtain⟨rfl,rfl⟩:=hd;obtain⟨p,B,rfl,h1,h2⟩:=two rfl;exact DG (Yj h hu ht L Z h1 h2 l)
 case entryStore t m k v =>
  simp at hd;obtain⟨rfl,rfl⟩:=hd;obtain⟨p,B,N,rfl,h1,h2,M⟩:=three rfl;exact Ve (a_ h h1 h2 M l)
 case range t x =>
  split at hd<;>try(cases hd;done)
  rename_i R e hu;simp at hd;obtain⟨rfl,rfl⟩:=hd;obtain⟨p,rfl,h1⟩:=one rfl
  cases dst with
  |none=>simp[ev]at l
  |some t=>exact DG (Yf h hu h1 l)
 case entry x =>
  simp at hd;obtain⟨rfl,rfl⟩:=hd;obtain⟨p,rfl,h1⟩:=one rfl;exact DG (Yh h h1 l)
 case extract x i =>
  simp at hd;obtain⟨rfl,rfl⟩:=hd;obtain⟨p,rfl,h1⟩:=one rfl;exact Eb h (Wl h1 l)
 case call cl=>exact Yn h rfl hd hxs l
end
end Go.Pw
end

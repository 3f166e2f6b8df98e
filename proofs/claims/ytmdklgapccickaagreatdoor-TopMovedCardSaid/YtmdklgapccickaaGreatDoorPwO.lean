/- Part. -/
import Derived.Test.YtmdklgapccickaaGreatDoorPkL
import Derived.Great.FillDense
set_option linter.all false
namespace Go.Pw
open Go.RowKit
theorem Lp{cells:Array Value}{off:Nat}{vs:Array Value}(h:off+vs.size<=cells.size) :
  vs.zipIdx.foldl (fun cs (c,j)=>cs.setIfInBounds (off+j) c) cells=(BX cells.toList off vs.toList).toArray:=by
 obtain⟨h1,h2⟩:=Go.Great.foldl_set off vs.toList 0 cells
 have e:vs.zipIdx.foldl (fun cs (c,j)=>cs.setIfInBounds (off+j) c) cells=((vs.toList.zipIdx 0).foldl (fun cs (x:Value×Nat)=>cs.setIfInBounds (off+x.2) x.1) cells):=by
  rw[←Array.foldl_toList,Array.toList_zipIdx]
 rw[e];apply Array.ext_getElem?;intro i;have e2:(BX cells.toList off vs.toList).toArray[i]?=(BX cells.toList off vs.toList)[i]?:=List.getElem?_toArray;rw[h2 i,e2,Dl (cs:=cells.toList) (vs:=vs.toList) (off:=off) (by simpa using h) i];simp only[Nat.add_zero,Array.length_toList]
 by_cases m:off<=i/\i<off+vs.size/\i<cells.size
 ·rw[if_pos m,if_neg (by omega),if_pos (by omega)]
 ·rw[if_neg m]
  by_cases l:i<off
  ·rw[if_pos l];simp
  ·rw[if_neg l,if_neg (by omega)];simp
section
variable {E:CW}{c:EG}{β:Nat->Nat->Value}{s:BG}{tm:Array Value}{w:World}{K:AV->Bs->Prop}
def C_(R:AV->Value->Prop)(xs:List AV)(us:List Value):Prop:=us.length=xs.length/\∀(i:Nat) (x:AV) (u:Value),xs[i]?=some x->us[i]?=some u->R x u
theorem C_.cons{R:AV->Value->Prop}{x:AV}{u:Value}{xs us}(h:C_ R (x::xs) (u::us)):R x u/\C_ R xs us :=
 ⟨h.2 0 x u rfl rfl,by have:=h.1;simpa using this,fun i a b e hb=>h.2 (i+1) a b (by simpa using e) (by simpa using hb)⟩
theorem C_.nil{R:AV->Value->Prop}{us}(h:C_ R [] us):us=[]:=List.eq_nil_of_length_eq_zero (by simpa using h.1)
theorem C_.cons'{R:AV->Value->Prop}{x:AV}{xs us}(h:C_ R (x::xs) us):∃u us',us=u::us'/\R x u/\C_ R xs us':=by
 match us,h with
 |[],h=>have:=h.1;simp at this
 |u::us',h=>exact⟨u,us',rfl,h.cons.1,h.cons.2⟩
theorem Vk{fb β' cn}{place:Nat->Option (Nat×Nat)}:∀(ix:List Nat) (pl:List (Nat×Nat)) (xs:List AV) (us:List Value) (cs cs':List AV) (cells:Array Value),ix.length=pl.length->pl.length=xs.length ->
  (∀(i:Nat) (q:Nat) (p:Nat×Nat),ix[i]?=some q->pl[i]?=some p->place q=some p)->C_ (AP w fb β' cn) xs us ->
  CV (AP w fb β' cn) cs cells->(∀y,y∈cs->y.one=true)->PO cs (pl.zip xs)=some cs' ->
  ∃cells',Instr.fill place cells (ix.zip us)=some cells'/\CV (AP w fb β' cn) cs' cells'/\∀y,y∈cs'->y.one=true
 |[],[],xs,us,cs,cs',cells,_,hl,hp,hv,hc,h1,hf=>by
  simp[PO]at hf;subst hf;exact⟨cells,by simp[Instr.fill],hc,h1⟩
 |q::ix,(off,size)::pl,x::xs,us,cs,cs',cells,hil,hl,hp,hv,hc,h1,hf=>by
  obtain⟨u,us',rfl,o,j⟩:=hv.cons';simp only[List.zip_cons_cons,PO]at hf ⊢;split at hf
  ·cases hf
  ·rename_i vs r;split at hf
   ·rename_i l;obtain⟨hr,e⟩:=QO o r;have e1:=hr.1;have e2:=hc.1;have m:=Lp (cells:=cells) (off:=off) (vs:=u.cells) (by omega);have n:=Yb (off:=off) hc hr (by omega);obtain⟨cells',A,z,B⟩:=Vk ix pl xs us' _ cs' _ (by simpa using hil) (by simpa using hl) (fun i q' p' h1 h2=>hp (i+1) q' p' (by simpa using h1) (by simpa using h2)) j n (fun y t=>(Lc t).elim (h1 y) (e y)) hf;refine⟨cells',?_,z,B⟩;rw[Instr.fill,hp 0 q (off,size) rfl rfl];simp only;rw[if_neg (by simp;omega),m];exact A
   ·cases hf
 |[],_::_,_,_,_,_,_,h,_,_,_,_,_,_=>by simp at h
 |_::_,[],_,_,_,_,_,h,_,_,_,_,_,_=>by simp at h
 |_::_,_::_,[],_,_,_,_,_,h,_,_,_,_,_=>by simp at h
theorem d4{t:TypeId}{z:List D}(h:LY E.P t=some z):∃i v,E.P.info? t=some i/\i.zero=some v/\∀w fb,CV (Ar w fb) z v.cells/\∀y,y∈z->y.one=true:=by
 unfold LY at h
 cases hi:E.P.info? t with
 |none=>simp[hi]at h
 |some i =>
  simp only[hi,Option.bind_some]at h;split at h
  ·rename_i v m;refine⟨i,v,rfl,m,fun w fb=>⟨⟨by rw[Af h];simp,fun j y u l hu=>?_⟩,fun y l=>?_⟩⟩
   ·obtain⟨x,hx,e⟩:=BC h l;have:x=u:=by simpa[Array.getElem?_toList,hu]using hx.symm
    subst this;exact JH e
   ·obtain⟨x,_,hx⟩:=D5 h l;unfold Rq at hx;split at hx<;>(try split at hx)<;>simp at hx<;>subst hx<;>rfl
  ·cases h
theorem OU{e:Array (Nat×Operand)}{f:Operand->Value}:(e.map fun(i,x)=>(i,f x)).toList=(e.toList.map (·.1)).zip ((e.toList.map (·.2)).map f):=by
 rw[Array.toList_map]
 induction e.toList with
 |nil=>rfl
 |cons p l ih=>simp[ih]
theorem TS(h:BZ E c β s tm w){t:TypeId}{z:List D}{pl:List (Nat×Nat)}{ix:List Nat}{xs:List AV}{us:List Value}{dst:Option Nat}(R:LY E.P t=some z)
  (A:(∃fs places,E.P.underlying t=some (.struct fs)/\fs.toList.mapM (fun f=>(E.P.info? f.type).map fun i=>(f.offset,i.size))=some places/\Ax (fun q=>places[q]?) ix=some pl) \/
   (∃n e sz,E.P.underlying t=some (.array n e)/\HT E.P e=some sz/\pl=ix.map fun q=>(q*sz,sz)))
  (hxs:C_ (AP w (c.bar β s.V) β s.V.cn) xs us) (u:ev E dst s.V (.build z pl) xs K) {j:Array (Nat×Value)}(l:j.toList=ix.zip us) :
  JU E c s tm K ((Instr.build t j).run E.P w):=by
 unfold ev at u;simp only at u;split at u
 ·rename_i cs O;obtain⟨o,u⟩:=u;obtain⟨it,M,hit,y,m⟩:=d4 R;obtain⟨m,B⟩:=m w (c.bar β s.V)
  have r:ix.length=pl.length:=by
   rcases A with⟨_,_,_,_,x⟩|⟨_,_,_,_,_,x⟩
   ·exact(Af x).symm
   ·simp[x]
  rcases A with⟨fs,places,hu,hpls,hix⟩|⟨n,e,sz,hu,hsz,hix⟩
  ·obtain⟨cells',J,G,L⟩:=Vk (place:=(places.toArray[·]?)) ix pl xs us _ cs M.cells r o (fun i q p h1 h2=>by
    obtain⟨p',x,S⟩:=C7 hix h1;rw[h2]at x;simp at x;subst x
    simpa using S) hxs (V_ m) (by simpa[AV.one]using B) O
   refine CP h u (run_build w t j cells' ?_) (WQ G L);simp only[Program.built,hit,hu,y,hpls,l];simpa using J
  ·unfold HT at hsz
   cases hie:E.P.info? e with
   |none=>simp[hie]at hsz
   |some N =>
    simp[hie]at hsz
    obtain⟨cells',J,G,L⟩:=Vk (place:=fun i=>some (i*N.size,N.size)) ix pl xs us _ cs M.cells r o (fun i q p h1 h2=>by
     rw[hix,List.getElem?_map,h1]at h2
     simp at h2;subst h2;rw[hsz]) hxs (V_ m) (by simpa[AV.one]using B) O
    refine CP h u (run_build w t j cells' ?_) (WQ G L);simp only[Program.built,hit,hu,y,hie,l];exact J
 ·exact u.elim
theorem X2{es:Nat}{l:List D}(hu:Cc es l){i:Nat}{x:D}(hi:i<l.length)(hx:x.cells.length=es):Ba (l.set i x)=BX (Ba l) (i*es) x.cells:=by
 induction l generalizing i with
 |nil=>simp at hi
 |cons y l ih =>
  have m:=hu y (by simp);have h:Cc es l:=fun z j=>hu z (by simp[j])
  cases i with
  |zero =>
   simp only[List.set_cons_zero,Ba,List.flatMap_cons,Nat.zero_mul,BX,List.take_zero,List.nil_append,Nat.zero_add,hx];rw[List.drop_append_of_le_length (by omega),List.drop_of_length_le (by omega)];simp
  |succ i =>
   have ih':=ih h (i:=i) (by simpa using hi);simp only[List.set_cons_succ,Ba,List.flatMap_cons]at ih' ⊢;rw[ih'];have e:(i+1)*es=y.cells.length+i*es:=by rw[m,Nat.add_mul];omega
   simp only[BX,e,List.take_length_add_append,List.append_assoc];rw[show y.cells.length+i*es+x.cells.length=y.cells.length+(i*es+x.cells.length) by omega,List.drop_length_add_append]
theorem ci{fb β' cn}{es:Nat}:∀(ix:List Nat) (xs:List AV) (us:List Value) (l j:List D) (cells:Array Value),ix.length=xs.length->C_ (AP w fb β' cn) xs us ->
  Cc es l->(∀y,y∈Ba l->y.one=true)->CV (Ar w fb) (Ba l) cells->Ga es l (ix.zip xs)=some j ->
  ∃cells',Instr.fill (fun i=>some (i*es,es)) cells (ix.zip us)=some cells'/\CV (Ar w fb) (Ba j) cells'/\Cc es j/\(∀y,y∈Ba j->y.one=true)/\j.length=l.length
 |[],xs,us,l,j,cells,hl,hv,hu,h1,hc,hf=>by
  simp[Ga]at hf;subst hf;exact⟨cells,by simp[Instr.fill],hc,hu,h1,rfl⟩
 |q::ix,x::xs,us,l,j,cells,hl,hv,hu,h1,hc,hf=>by
  obtain⟨u,us',rfl,t,p⟩:=hv.cons';simp only[List.zip_cons_cons,Ga]at hf ⊢;split at hf
  ·cases hf
  ·rename_i d hd;split at hf
   ·rename_i e;obtain⟨hr,n⟩:=U6 t hd;have e1:=hr.1;have e2:=hc.1;have A:=Bl hu
    have z:q*es+es<=(Ba l).length:=by
     rw[A];have:(q+1)*es<=l.length*es:=Nat.mul_le_mul_right _ e.2;rw[Nat.add_mul]at this;omega
    have r:=Lp (cells:=cells) (off:=q*es) (vs:=u.cells) (by omega);have o:=Yb (off:=q*es) hc hr (by omega);rw[←X2 hu e.2 e.1]at o
    obtain⟨cells',J,G,M,L,B⟩:=ci ix xs us' (l.set q d) j _ (by simpa using hl) p (fun y m=>by
      rcases List.mem_or_eq_of_mem_set m with m|rfl
      ·exact hu y m
      ·exact e.1) (fun y m=>by
      rw[X2 hu e.2 e.1]at m
      exact(Lc m).elim (h1 y) (n y)) o hf
    refine⟨cells',?_,G,M,L,by simpa using B⟩;rw[Instr.fill];simp only;rw[if_neg (by simp;omega),r];exact J
   ·cases hf
 |_::_,[],_,_,_,_,h,_,_,_,_,_=>by simp at h
end
end Go.Pw

/- A part of the proof. -/
import Derived.Test.YtmdklgapccickaaGreatDoorPkL
import Derived.Great.FillDense
set_option linter.all false
namespace Go.Pw
open Go.RowKit
theorem J0 {cells:Array Value}{off:Nat}{vs:Array Value}(h:off+vs.size<=cells.size) :
  vs.zipIdx.foldl (fun cs (c,j)=>cs.setIfInBounds (off+j) c) cells=(Bs cells.toList off vs.toList).toArray:=by
 obtain⟨h1,h2⟩:=Go.Great.foldl_set off vs.toList 0 cells
 have e:vs.zipIdx.foldl (fun cs (c,j)=>cs.setIfInBounds (off+j) c) cells=((vs.toList.zipIdx 0).foldl (fun cs (x:Value×Nat)=>cs.setIfInBounds (off+x.2) x.1) cells):=by
  rw[←Array.foldl_toList,Array.toList_zipIdx]
 rw[e]
 apply Array.ext_getElem?
 intro i
 have e2:(Bs cells.toList off vs.toList).toArray[i]?=(Bs cells.toList off vs.toList)[i]?:=List.getElem?_toArray
 rw[h2 i,e2,Cs (cs:=cells.toList) (vs:=vs.toList) (off:=off) (by simpa using h) i]
 simp only[Nat.add_zero,Array.length_toList]
 by_cases h3:off<=i/\i<off+vs.size/\i<cells.size
 ·rw[if_pos h3,if_neg (by omega),if_pos (by omega)]
 ·rw[if_neg h3]
  by_cases h4:i<off
  ·rw[if_pos h4];simp
  ·rw[if_neg h4,if_neg (by omega)];simp
section
variable {E:CW}{c:D_}{β:Nat->Nat->Value}{s:Bg}{tm:Array Value}{w:World}{K:AV->B3->Prop}
def DL (R:AV->Value->Prop) (xs:List AV) (us:List Value):Prop:=us.length=xs.length/\∀(i:Nat) (x:AV) (u:Value),xs[i]?=some x->us[i]?=some u->R x u
theorem DL.cons {R:AV->Value->Prop}{x:AV}{u:Value} {xs us} (h:DL R (x::xs) (u::us)):R x u/\DL R xs us :=
 ⟨h.2 0 x u rfl rfl,by have:=h.1;simpa using this,fun i a b ha hb=>h.2 (i+1) a b (by simpa using ha) (by simpa using hb)⟩
theorem DL.nil {R:AV->Value->Prop} {us} (h:DL R [] us):us=[]:=List.eq_nil_of_length_eq_zero (by simpa using h.1)
theorem DL.cons' {R:AV->Value->Prop}{x:AV} {xs us} (h:DL R (x::xs) us):∃u us',us=u::us'/\R x u/\DL R xs us':=by
 match us,h with
 |[],h=>have:=h.1;simp at this
 |u::us',h=>exact⟨u,us',rfl,h.cons.1,h.cons.2⟩
theorem SE {fb β' cn} {place:Nat->Option (Nat×Nat)}:∀(ix:List Nat) (pl:List (Nat×Nat)) (xs:List AV) (us:List Value) (cs cs':List AV) (cells:Array Value),ix.length=pl.length->pl.length=xs.length ->
  (∀(i:Nat) (q:Nat) (p:Nat×Nat),ix[i]?=some q->pl[i]?=some p->place q=some p)->DL (AM w fb β' cn) xs us ->
  CN (AM w fb β' cn) cs cells->(∀y,y∈cs->y.one=true)->Mw cs (pl.zip xs)=some cs' ->
  ∃cells',Instr.fill place cells (ix.zip us)=some cells'/\CN (AM w fb β' cn) cs' cells'/\∀y,y∈cs'->y.one=true
 |[],[],xs,us,cs,cs',cells,_,hl,hp,hv,hc,h1,hf=>by
  simp[Mw] at hf;subst hf
  exact⟨cells,by simp[Instr.fill],hc,h1⟩
 |q::ix,(off,size)::pl,x::xs,us,cs,cs',cells,hil,hl,hp,hv,hc,h1,hf=>by
  obtain⟨u,us',rfl,hxu,hv'⟩:=hv.cons'
  simp only[List.zip_cons_cons,Mw] at hf ⊢
  split at hf
  ·cases hf
  ·rename_i vs hcs
   split at hf
   ·rename_i hcond
    obtain⟨hr,hone⟩:=J5 hxu hcs
    have e1:=hr.1;have e2:=hc.1
    have hsp:=J0 (cells:=cells) (off:=off) (vs:=u.cells) (by omega)
    have hc':=UX (off:=off) hc hr (by omega)
    obtain⟨cells',g1,g2,g3⟩:=SE ix pl xs us' _ cs' _ (by simpa using hil) (by simpa using hl) (fun i q' p' h1 h2=>hp (i+1) q' p' (by simpa using h1) (by simpa using h2)) hv' hc' (fun y hy=>(Jn hy).elim (h1 y) (hone y)) hf
    refine⟨cells',?_,g2,g3⟩
    rw[Instr.fill,hp 0 q (off,size) rfl rfl]
    simp only
    rw[if_neg (by simp;omega),hsp]
    exact g1
   ·cases hf
 |[],_::_,_,_,_,_,_,h,_,_,_,_,_,_=>by simp at h
 |_::_,[],_,_,_,_,_,h,_,_,_,_,_,_=>by simp at h
 |_::_,_::_,[],_,_,_,_,_,h,_,_,_,_,_=>by simp at h
theorem XR {t:TypeId}{z:List D}(h:Hf E.P t=some z):∃i v,E.P.info? t=some i/\i.zero=some v/\∀w fb,CN (Az w fb) z v.cells/\∀y,y∈z->y.one=true:=by
 unfold Hf at h
 cases hi:E.P.info? t with
 |none=>simp[hi] at h
 |some i =>
  simp only[hi,Option.bind_some] at h
  split at h
  ·rename_i v hz
   refine⟨i,v,rfl,hz,fun w fb=>⟨⟨by rw[Aw h];simp,fun j y u hy hu=>?_⟩,fun y hy=>?_⟩⟩
   ·obtain⟨x,hx,hxy⟩:=Bi h hy
    have:x=u:=by simpa[Array.getElem?_toList,hu] using hx.symm
    subst this
    exact Hy hxy
   ·obtain⟨x,_,hx⟩:=EL h hy
    unfold Oh at hx
    split at hx<;>(try split at hx)<;>simp at hx<;>subst hx<;>rfl
  ·cases h
theorem MD {parts:Array (Nat×Operand)}{f:Operand->Value}:(parts.map fun(i,x)=>(i,f x)).toList=(parts.toList.map (·.1)).zip ((parts.toList.map (·.2)).map f):=by
 rw[Array.toList_map]
 induction parts.toList with
 |nil=>rfl
 |cons p l ih=>simp[ih]
theorem QJ (h:Br E c β s tm w) {t:TypeId}{z:List D}{pl:List (Nat×Nat)}{ix:List Nat}{xs:List AV}{us:List Value}{dst:Option Nat}(hz:Hf E.P t=some z)
  (hpl:(∃fs places,E.P.underlying t=some (.struct fs)/\fs.toList.mapM (fun f=>(E.P.info? f.type).map fun i=>(f.offset,i.size))=some places/\BV (fun q=>places[q]?) ix=some pl) \/
   (∃n e sz,E.P.underlying t=some (.array n e)/\Ej E.P e=some sz/\pl=ix.map fun q=>(q*sz,sz)))
  (hxs:DL (AM w (c.bar β s.V) β s.V.cn) xs us) (he:ev E dst s.V (.build z pl) xs K) {parts:Array (Nat×Value)}(hparts:parts.toList=ix.zip us) :
  GF E c s tm K ((Instr.build t parts).run E.P w):=by
 unfold ev at he
 simp only at he
 split at he
 ·rename_i cs hf
  obtain⟨hlen,he⟩:=he
  obtain⟨it,zv,hit,hzv,hzr⟩:=XR hz
  obtain⟨hzr,hz1⟩:=hzr w (c.bar β s.V)
  have hixl:ix.length=pl.length:=by
   rcases hpl with⟨_,_,_,_,h3⟩|⟨_,_,_,_,_,h3⟩
   ·exact(Aw h3).symm
   ·simp[h3]
  rcases hpl with⟨fs,places,hu,hpls,hix⟩|⟨n,e,sz,hu,hsz,hix⟩
  ·obtain⟨cells',g1,g2,g3⟩:=SE (place:=(places.toArray[·]?)) ix pl xs us _ cs zv.cells hixl hlen (fun i q p h1 h2=>by
    obtain⟨p',h3,h4⟩:=Cw hix h1
    rw[h2] at h3;simp at h3;subst h3
    simpa using h4) hxs (SY hzr) (by simpa[AV.one] using hz1) hf
   refine CF h he (run_build w t parts cells' ?_) (Ls g2 g3)
   simp only[Program.built,hit,hu,hzv,hpls,hparts]
   simpa using g1
  ·unfold Ej at hsz
   cases hie:E.P.info? e with
   |none=>simp[hie] at hsz
   |some ie =>
    simp[hie] at hsz
    obtain⟨cells',g1,g2,g3⟩:=SE (place:=fun i=>some (i*ie.size,ie.size)) ix pl xs us _ cs zv.cells hixl hlen (fun i q p h1 h2=>by
     rw[hix,List.getElem?_map,h1] at h2
     simp at h2;subst h2;rw[hsz]) hxs (SY hzr) (by simpa[AV.one] using hz1) hf
    refine CF h he (run_build w t parts cells' ?_) (Ls g2 g3)
    simp only[Program.built,hit,hu,hzv,hie,hparts]
    exact g1
 ·exact he.elim
theorem T3 {es:Nat}{l:List D}(hu:C0 es l) {i:Nat}{x:D}(hi:i<l.length) (hx:x.cells.length=es):B5 (l.set i x)=Bs (B5 l) (i*es) x.cells:=by
 induction l generalizing i with
 |nil=>simp at hi
 |cons y l ih =>
  have hy:=hu y (by simp)
  have hu':C0 es l:=fun z hz=>hu z (by simp[hz])
  cases i with
  |zero =>
   simp only[List.set_cons_zero,B5,List.flatMap_cons,Nat.zero_mul,Bs,List.take_zero,List.nil_append,Nat.zero_add,hx]
   rw[List.drop_append_of_le_length (by omega),List.drop_of_length_le (by omega)];simp
  |succ i =>
   have ih':=ih hu' (i:=i) (by simpa using hi)
   simp only[List.set_cons_succ,B5,List.flatMap_cons] at ih' ⊢
   rw[ih']
   have e:(i+1)*es=y.cells.length+i*es:=by rw[hy,Nat.add_mul];omega
   simp only[Bs,e,List.take_length_add_append,List.append_assoc]
   rw[show y.cells.length+i*es+x.cells.length=y.cells.length+(i*es+x.cells.length) by omega,List.drop_length_add_append]
theorem Wh {fb β' cn} {es:Nat}:∀(ix:List Nat) (xs:List AV) (us:List Value) (l l':List D) (cells:Array Value),ix.length=xs.length->DL (AM w fb β' cn) xs us ->
  C0 es l->(∀y,y∈B5 l->y.one=true)->CN (Az w fb) (B5 l) cells->F_ es l (ix.zip xs)=some l' ->
  ∃cells',Instr.fill (fun i=>some (i*es,es)) cells (ix.zip us)=some cells'/\CN (Az w fb) (B5 l') cells'/\C0 es l'/\(∀y,y∈B5 l'->y.one=true)/\l'.length=l.length
 |[],xs,us,l,l',cells,hl,hv,hu,h1,hc,hf=>by
  simp[F_] at hf;subst hf
  exact⟨cells,by simp[Instr.fill],hc,hu,h1,rfl⟩
 |q::ix,x::xs,us,l,l',cells,hl,hv,hu,h1,hc,hf=>by
  obtain⟨u,us',rfl,hxu,hv'⟩:=hv.cons'
  simp only[List.zip_cons_cons,F_] at hf ⊢
  split at hf
  ·cases hf
  ·rename_i d hd
   split at hf
   ·rename_i hcond
    obtain⟨hr,hone⟩:=Rd hxu hd
    have e1:=hr.1;have e2:=hc.1
    have e3:=B6 hu
    have hfit:q*es+es<=(B5 l).length:=by
     rw[e3];have:(q+1)*es<=l.length*es:=Nat.mul_le_mul_right _ hcond.2
     rw[Nat.add_mul] at this;omega
    have hsp:=J0 (cells:=cells) (off:=q*es) (vs:=u.cells) (by omega)
    have hc':=UX (off:=q*es) hc hr (by omega)
    rw[←T3 hu hcond.2 hcond.1] at hc'
    obtain⟨cells',g1,g2,g3,g4,g5⟩:=Wh ix xs us' (l.set q d) l' _ (by simpa using hl) hv' (fun y hy=>by
      rcases List.mem_or_eq_of_mem_set hy with hy|rfl
      ·exact hu y hy
      ·exact hcond.1) (fun y hy=>by
      rw[T3 hu hcond.2 hcond.1] at hy
      exact(Jn hy).elim (h1 y) (hone y)) hc' hf
    refine⟨cells',?_,g2,g3,g4,by simpa using g5⟩
    rw[Instr.fill]
    simp only
    rw[if_neg (by simp;omega),hsp]
    exact g1
   ·cases hf
 |_::_,[],_,_,_,_,h,_,_,_,_,_=>by simp at h
end
end Go.Pw

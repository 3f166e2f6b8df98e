/- A part of the proof. -/
import Derived.Test.YtpcpcjbbdgmohaaDoorLgJournalU
set_option linter.all false
namespace Go.Pw
theorem Mx {l k:AY}(h1:k.blocks=l.blocks) (h2:k.slots=l.slots):∀n,k.allOk n=l.allOk n
 |0=>rfl
 |n+1=>by rw[AY.allOk,AY.allOk,Mx h1 h2 n,h1,h2]
theorem XH (l:AY):l.op.check=l.check:=by
 have h:=Mx (l:=l) (k:=l.op) rfl rfl
 have s:J8 l.disk l.op.disk:=⟨rfl,rfl,rfl⟩
 unfold AY.check AY.head
 rw[h,show l.op.disk.ok=l.disk.ok from rfl,show l.op.slots=l.slots from rfl,s.size];rfl
theorem M4 {l k:AY}(h:k.slots=l.slots):k.full=l.full:=by
 unfold AY.full AY.many AY.newest
 rw[h]
 exact G6 fun i _=>by unfold AY.at';rw[h]
theorem M3 {l k:AY}(h:k.slots=l.slots):k.kept=l.kept:=by
 unfold AY.kept AY.many AY.newest
 rw[h]
 exact JQ fun i _=>by unfold AY.at';rw[h]
theorem N7 {l:AY}(h1:l.check=0) (h2:l.full=true):l.openE=0:=by unfold AY.openE;rw[h1,h2];rfl
theorem N2 {l:AY}(hc:l.check=0) (g:l.Good) (es:List Eb):∀i,FV l.blocks l.slots es i=0->(l.setS (DA l.slots es i)).check=0
 |0,_=>hc
 |i+1,h=>by
  have h0:=EP h (Nat.le_succ i)
  exact VK (l:=l.setS (DA l.slots es i)) (N2 hc g es i h0) (Ep g es i h0) (Fs h (Nat.lt_succ_self i))
theorem ME {l:AY}(g:l.Good) (hf:l.full=true) (es:List Eb):∀i,FV l.blocks l.slots es i=0->(l.setS (DA l.slots es i)).full=true
 |0,_=>hf
 |i+1,h=>by
  have h0:=EP h (Nat.le_succ i)
  exact W7 (l:=l.setS (DA l.slots es i)) (Ep g es i h0) (ME g hf es i h0) (Fs h (Nat.lt_succ_self i))
theorem Wg {l:AY}(hc:l.check=0) (g:l.Good) (hr:l.newest.num+1<l.newest.tail+l.slots.length):(l.setS (PO l.slots)).check=0/\(l.setS (PO l.slots)).newest=l.newest/\(l.setS (PO l.slots)).kept=l.kept/\(l.setS (PO l.slots)).full=l.full:=by
 obtain⟨n1,n2,n3⟩:=Bs g
 refine⟨P6 hc (Nv rfl),Uw g fun k h1 h2=>?_⟩
 rw[DU] at *
 exact XO (by omega) (show k<(D0 l.slots).num+1 by omega) (by omega)
theorem Zf {l:AY}(hc:l.check=0) (hf:l.full=true) {es:List Eb}{d:Nat}{torn:Bool}(h:FV l.blocks l.slots es es.length=0) (hd:d<=es.length) (ht:torn=true->d<es.length) :
  (l.op.setS (Kt l.slots es d torn)).openE=0/\(l.op.setS (Kt l.slots es d torn)).kept=(l.setS (DA l.slots es d)).kept/\(l.op.setS (Kt l.slots es d torn)).newest=(l.setS (DA l.slots es d)).newest:=by
 have g:=QY (FM hc)
 have hc':l.op.check=0:=(XH l).trans hc
 have hf':l.op.full=true:=(M4 (l:=l) (k:=l.op) rfl).trans hf
 have he:=EP h hd
 have c1:=N2 (l:=l.op) hc' g es d he
 have g1:=Ep (l:=l.op) g es d he
 have f1:=ME (l:=l.op) g hf' es d he
 have k1:(l.op.setS (DA l.slots es d)).kept=(l.setS (DA l.slots es d)).kept:=M3 rfl
 cases torn with
 |false=>exact⟨N7 c1 f1,k1,rfl⟩
 |true =>
  have ha:=Fs h (ht rfl)
  obtain⟨_,_,_,a4,_⟩:=II ha
  obtain⟨t1,t2,t3,t4⟩:=Wg (l:=l.op.setS (DA l.slots es d)) c1 g1 a4
  exact⟨N7 t1 (t4.trans f1),t3.trans k1,t2⟩
theorem Uj {l:AY}(h:l.openE=0) (es:List Eb) (d:Int) (torn:Bool) (hd:0<=d/\d<=es.length) (ht:torn=true->d≠es.length):l.cutE es d torn=FV l.blocks l.slots es es.length:=by
 unfold AY.cutE
 have:Mc es d torn=false:=by
  unfold Mc
  rw[CR.2 hd]
  cases torn with
  |false=>rfl
  |true=>simp[ht rfl]
 rw[this,if_neg (by simpa using h)];simp
theorem Ui {l:AY}{es:List Eb}{d:Int}{torn:Bool}(h:l.cutE es d torn=0):l.cutL es d torn=l.op.setS (Kt l.slots es d.toNat torn):=by unfold AY.cutL;rw[if_pos h]
theorem Uh {l:AY}{es:List Eb}{d:Int}{torn:Bool}:(l.cutL es d torn).sn=true->(l.cutL es d torn).slots=[]:=by
 unfold AY.cutL
 split
 ·intro h;cases h
 ·intro _;rfl
theorem Ug {l:AY}{es:List Eb}{d:Int}{torn:Bool}:(l.cutL es d torn).disk.zn=true->(l.cutL es d torn).disk.zones=[]:=by
 unfold AY.cutL
 split
 ·intro h
  have h':(l.disk.zn && l.disk.zones.isEmpty)=true:=h
  rw[Bool.and_eq_true] at h'
  show l.disk.zones=[]
  simpa using h'.2
 ·intro _;rfl
def M9 (ks:List Bd) (n:Int) (ws:List Eb):Nat->List Bd
 |0=>ks
 |i+1=>M9 ks n ws i++[⟨n+i+1,(ws[i]?.getD default).blk,(ws[i]?.getD default).val,(ws[i]?.getD default).tail,false⟩]
def SI (ws:List Eb):Nat->Int
 |0=>0
 |i+1=>(ws[i]?.getD default).tail
def ci (e:Bool) (t:Int) (al:List Bd):Nat->List Bd
 |0=>[]
 |i+1=>ci e t al i++if e || decide (t<=(al[i]?.getD default).num) then [al[i]?.getD default] else []
def dW (ks:List Bd) (n:Int) (ws:List Eb):List Bd:=ci (decide (ws.length=0)) (SI ws ws.length) (M9 ks n ws ws.length) (M9 ks n ws ws.length).length
theorem Gq (ks:List Bd) (n:Int) (ws:List Eb):∀i,(M9 ks n ws i).length=ks.length+i
 |0=>rfl
 |i+1=>by rw[M9,List.length_append,Gq ks n ws i];simp;omega
theorem Pf {l:AY}(g:l.Good) (es:List Eb) (i:Nat) (h:FV l.blocks l.slots es (i+1)=0):D0 (DA l.slots es (i+1))=LG (DA l.slots es i) (es[i]?.getD default):=by
 have h0:=EP h (Nat.le_succ i)
 exact Gf (l:=l.setS (DA l.slots es i)) (Ep g es i h0) (Fs h (Nat.lt_succ_self i))
theorem Ph {l:AY}(g:l.Good) (hf:l.full=true) (es:List Eb):∀i,FV l.blocks l.slots es i=0->(l.setS (DA l.slots es i)).kept=(M9 l.kept l.newest.num es i).filter fun r=>decide (i=0) || decide (SI es i<=r.num)
 |0,_=>by
  rw[M9]
  have:(fun r:Bd=>decide ((0:Nat)=0) || decide (SI es 0<=r.num))=fun _=>true:=by funext r;simp
  rw[this,List.filter_eq_self.2 (fun _ _=>rfl)];rfl
 |i+1,h=>by
  have h0:=EP h (Nat.le_succ i)
  have hs:=Fs h (Nat.lt_succ_self i)
  have gi:=Ep g es i h0
  have ih:=Ph g hf es i h0
  have hn:=I_ g es i h0
  obtain⟨_,_,a3,_,_⟩:=II hs
  have hk:=W6 (l:=l.setS (DA l.slots es i)) gi (ME g hf es i h0) hs
  rw[ih] at hk
  have e1:(l.setS (DA l.slots es (i+1))).kept=_:=hk
  rw[e1,M9,List.filter_append,List.filter_filter]
  have hr:LG (DA l.slots es i) (es[i]?.getD default)=⟨l.newest.num+i+1,(es[i]?.getD default).blk,(es[i]?.getD default).val,(es[i]?.getD default).tail,false⟩:=by
   unfold LG;rw[hn]
  have hr':LG (l.setS (DA l.slots es i)).slots (es[i]?.getD default)=⟨l.newest.num+i+1,(es[i]?.getD default).blk,(es[i]?.getD default).val,(es[i]?.getD default).tail,false⟩:=hr
  rw[hr']
  congr 1
  ·refine List.filter_congr fun r hr=>?_
   rw[SI]
   have hi1:decide (i+1=0)=false:=by simp
   rw[hi1,Bool.false_or]
   cases i with
   |zero=>simp
   |succ j =>
    have ht:=Pf g es j h0
    have a3':(LG (DA l.slots es j) (es[j]?.getD default)).tail<=(es[j+1]?.getD default).tail:=by rw[←ht];exact a3.1
    have a3'':(es[j]?.getD default).tail<=(es[j+1]?.getD default).tail:=a3'
    rw[SI]
    by_cases hx:(es[j+1]?.getD default).tail<=r.num
    ·rw[decide_eq_true hx,decide_eq_true (show (es[j]?.getD default).tail<=r.num by omega)];simp
    ·rw[decide_eq_false hx];simp
  ·simp only[List.filter_cons,List.filter_nil]
   rw[SI,decide_eq_true (show (es[i]?.getD default).tail<=l.newest.num+i+1 by omega),Bool.or_true];simp
end Go.Pw

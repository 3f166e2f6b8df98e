/- A part of the proof. -/
import Derived.Test.YtibkjeolahobbaaGreatDoorCodesSpec
set_option linter.all false
namespace Go.Pw
abbrev H4:=Int×Int
def nL (p:H4):D:=.agg [.int .i64 p.1,.int .i64 p.2]
def rx (l:List H4):List D:=l.map nL
def gd {β:Type}(f:β->Int->β):Nat->Int->β->β
 |0,_,b=>b
 |n+1,i,b=>gd f n (i+1) (f b i)
namespace AW
variable (c:AW)
def W:Nat:=2^c.bits.toNat
def lvl (differ:Bool) (p:H4) (a:Int) (out:List H4) (b:Int):List H4 :=
 if c.wrd p.1 a=c.wrd p.2 b/\(a≠b\/differ=false)/\¬(c.nxt p.1 a,c.nxt p.2 b)∈out then out++[(c.nxt p.1 a,c.nxt p.2 b)] else out
def lvlA (differ:Bool) (p:H4) (out:List H4) (a:Int):List H4:=gd (c.lvl differ p a) c.W 0 out
def lvlP (differ:Bool) (out:List H4) (p:H4):List H4:=gd (c.lvlA differ p) c.W 0 out
def level (l:List H4) (differ:Bool):List H4:=l.foldl (c.lvlP differ) []
def orderF:Nat->Int->List H4->Int×Int
 |0,_,_=>(0,3)
 |n+1,k,now=>let l:=c.level now (decide (k=1));if l=[] then (k,0) else orderF n (k+1) l
def pairs0:List H4:=(List.range c.words.length).map fun(s:Nat)=>((s:Int),(s:Int))
def order:Int×Int:=if !c.ok then (0,40) else c.orderF (c.words.length*c.words.length+1) 1 c.pairs0
def GoodP (out:List H4):Prop:=out.Nodup/\∀q,q∈out->c.isState q.1=true/\c.isState q.2=true
end AW
theorem take_get {xs:List Int}{i:Nat}(h:i<xs.length):xs.take (i+1)=xs.take i++[xs[i]?.getD 0]:=by
 rw[List.take_add_one,List.getElem?_eq_getElem h];rfl
theorem all_iff {l:List Int}{p:Int->Bool}:l.all p=true↔∀(j:Nat),j<l.length->p (l[j]?.getD 0)=true:=by
 rw[List.all_eq_true]
 constructor
 ·intro h j hj;exact h _ (Cs hj)
 ·intro h x hx
  obtain⟨j,hj,rfl⟩:=List.getElem_of_mem hx
  have:=h j hj
  rwa [List.getElem?_eq_getElem hj,Option.getD_some] at this
theorem all_bad {l:List Int}{p:Int->Bool}{j:Nat}(hj:j<l.length) (h:p (l[j]?.getD 0)=false):l.all p=false:=by
 cases ha:l.all p with
 |false=>rfl
 |true=>rw[all_iff.1 ha j hj] at h;cases h
end Go.Pw

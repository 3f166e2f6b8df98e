/- A part of the proof. -/
import Derived.Test.YtmdklgapccickaaGreatDoorCodesSpec
set_option linter.all false
namespace Go.Pw
abbrev G6:=Int×Int
def R2 (p:G6):D:=.agg [.int .i64 p.1,.int .i64 p.2]
def q9 (l:List G6):List D:=l.map R2
def gJ {β:Type}(f:β->Int->β):Nat->Int->β->β
 |0,_,b=>b
 |n+1,i,b=>gJ f n (i+1) (f b i)
namespace GCode
variable (c:GCode)
def W:Nat:=2^c.bits.toNat
def lvl (differ:Bool) (p:G6) (a:Int) (out:List G6) (b:Int):List G6 :=
 if c.wrd p.1 a=c.wrd p.2 b/\(a≠b\/differ=false)/\¬(c.nxt p.1 a,c.nxt p.2 b)∈out then out++[(c.nxt p.1 a,c.nxt p.2 b)] else out
def lvlA (differ:Bool) (p:G6) (out:List G6) (a:Int):List G6:=gJ (c.lvl differ p a) c.W 0 out
def lvlP (differ:Bool) (out:List G6) (p:G6):List G6:=gJ (c.lvlA differ p) c.W 0 out
def level (l:List G6) (differ:Bool):List G6:=l.foldl (c.lvlP differ) []
def orderF:Nat->Int->List G6->Int×Int
 |0,_,_=>(0,3)
 |n+1,k,now=>let l:=c.level now (decide (k=1));if l=[] then (k,0) else orderF n (k+1) l
def pairs0:List G6:=(List.range c.words.length).map fun(s:Nat)=>((s:Int),(s:Int))
def order:Int×Int:=if !c.ok then (0,40) else c.orderF (c.words.length*c.words.length+1) 1 c.pairs0
def GoodP (out:List G6):Prop:=out.Nodup/\∀q,q∈out->c.isState q.1=true/\c.isState q.2=true
end GCode
theorem take_get {xs:List Int}{i:Nat}(h:i<xs.length):xs.take (i+1)=xs.take i++[xs[i]?.getD 0]:=by
 rw[List.take_add_one,List.getElem?_eq_getElem h];rfl
theorem all_iff {l:List Int}{p:Int->Bool}:l.all p=true↔∀(j:Nat),j<l.length->p (l[j]?.getD 0)=true:=by
 rw[List.all_eq_true]
 constructor
 ·intro h j hj;exact h _ (FV hj)
 ·intro h x hx
  obtain⟨j,hj,rfl⟩:=List.getElem_of_mem hx
  have:=h j hj
  rwa [List.getElem?_eq_getElem hj,Option.getD_some] at this
theorem all_bad {l:List Int}{p:Int->Bool}{j:Nat}(hj:j<l.length) (h:p (l[j]?.getD 0)=false):l.all p=false:=by
 cases ha:l.all p with
 |false=>rfl
 |true=>rw[all_iff.1 ha j hj] at h;cases h
theorem nodup_lt:∀(n:Nat) (l:List Nat),l.Nodup->(∀x,x∈l->x<n)->l.length<=n
 |0,l,_,h=>by cases l with|nil=>simp|cons a l=>exact absurd (h a (by simp)) (by omega)
 |n+1,l,hn,h=>by
  have h1:=nodup_lt n (l.filter (·≠n)) (hn.filter _) fun x hx=>by
   simp at hx;have:=h x hx.1;omega
  have h2:l.length=(l.filter (·≠n)).length+(l.filter (fun x=>!decide (x≠n))).length:=by
   rw[←List.countP_eq_length_filter,←List.countP_eq_length_filter]
   have:=List.length_eq_countP_add_countP (l:=l) (p:=fun x=>decide (x≠n))
   simpa using this
  have h3:(l.filter (fun x=>!decide (x≠n))).length<=1:=by
   have h4:l.filter (fun x=>!decide (x≠n))=l.filter (· == n):=by congr 1;funext x;by_cases hx:x=n<;>simp[hx]
   rw[h4,←List.countP_eq_length_filter]
   have:=(List.nodup_iff_count.1 hn) n
   simpa[List.count] using this
  omega
end Go.Pw

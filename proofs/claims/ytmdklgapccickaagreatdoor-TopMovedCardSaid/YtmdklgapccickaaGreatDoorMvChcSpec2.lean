/- Part. -/
import Derived.Test.YtmdklgapccickaaGreatDoorCodesSpec
set_option linter.all false
open List renaming countP_eq_length_filter->aa,getElem?_eq_getElem->ax
namespace Go.Pw
abbrev O':=Int×Int
def qT{β:Type}(f:β->Int->β):Nat->Int->β->β
 |0,_,b=>b
 |n+1,i,b=>qT f n (i+1) (f b i)
namespace GCode
variable (c:GCode)
def W:Nat:=2^c.bits.toNat
def lvl(differ:Bool)(p:O')(a:Int)(out:List O')(b:Int):List O' :=
 if c.wrd p.1 a=c.wrd p.2 b/\(a≠b\/differ=false)/\¬(c.nxt p.1 a,c.nxt p.2 b)∈out then out++[(c.nxt p.1 a,c.nxt p.2 b)]else out
def lvlA(differ:Bool)(p:O')(out:List O')(a:Int):List O':=qT (c.lvl differ p a) c.W 0 out
def lvlP(differ:Bool)(out:List O')(p:O'):List O':=qT (c.lvlA differ p) c.W 0 out
def level(l:List O')(differ:Bool):List O':=l.foldl (c.lvlP differ) []
def orderF:Nat->Int->List O'->Int×Int
 |0,_,_=>(0,3)
 |n+1,k,now=>let l:=c.level now (decide (k=1));if l=[]then(k,0)else orderF n (k+1) l
def pairs0:List O':=(List.range c.words.length).map fun(s:Nat)=>((s:Int),(s:Int))
def order:Int×Int:=if !c.ok then(0,40)else c.orderF (c.words.length*c.words.length+1) 1 c.pairs0
end GCode
theorem take_get{xs:List Int}{i:Nat}(h:i<xs.length):xs.take (i+1)=xs.take i++[xs[i]?.getD 0]:=by
 rw[List.take_add_one,ax h];rfl
theorem all_iff{l:List Int}{p:Int->Bool}:l.all p=true↔∀(j:Nat),j<l.length->p (l[j]?.getD 0)=true:=by
 rw[List.all_eq_true];constructor
 ·intro h j e;exact h _ (D6 e)
 ·intro h x hx;obtain⟨j,e,rfl⟩:=List.getElem_of_mem hx;have:=h j e;rwa [ax e,Option.getD_some]at this
theorem all_bad{l:List Int}{p:Int->Bool}{j:Nat}(e:j<l.length)(h:p (l[j]?.getD 0)=false):l.all p=false:=by
 cases ha:l.all p with
 |false=>rfl
 |true=>rw[all_iff.1 ha j e]at h;cases h
theorem nodup_lt:∀(n:Nat) (l:List Nat),l.Nodup->(∀x,x∈l->x<n)->l.length<=n
 |0,l,_,h=>by cases l with|nil=>simp|cons a l=>exact absurd (h a (by simp)) (by omega)
 |n+1,l,hn,h=>by
  have h1:=nodup_lt n (l.filter (·≠n)) (hn.filter _) fun x hx=>by
   simp at hx;have:=h x hx.1;omega
  have h2:l.length=(l.filter (·≠n)).length+(l.filter (fun x=>!decide (x≠n))).length:=by
   rw[←aa,←aa];have:=List.length_eq_countP_add_countP (l:=l) (p:=fun x=>decide (x≠n));simpa using this
  have i:(l.filter (fun x=>!decide (x≠n))).length<=1:=by
   have e:l.filter (fun x=>!decide (x≠n))=l.filter (· == n):=by congr 1;funext x;by_cases hx:x=n<;>simp[hx]
   rw[e,←aa];have:=(List.nodup_iff_count.1 hn) n;simpa[List.count]using this
  omega
end Go.Pw

/- Part. -/
import Derived.Test.YtmdklgapccickaaGreatDoorPwInt
set_option linter.all false
open List renaming getElem?_eq_getElem->aa,all_eq_true->ax,getElem_mem->ay
namespace Go.Pw
abbrev Rows:=List (Bool×List Int)
structure GCode where
 bits:Int
 out:Int
 least:Int
 most:Int
 nw:Bool
 words:Rows
 nn:Bool
 next:Rows
def yK(p:Bool×List Int):D:=.list p.1 (Ad p.2)
def Hn(l:Rows):List D:=l.map yK
def PP(c:GCode):List D:=[.int .i64 c.bits,.int .i64 c.out,.int .i64 c.least,.int .i64 c.most,.list c.nw (Hn c.words),.list c.nn (Hn c.next)]
def Hz(c:GCode):D:=.agg (PP c)
theorem ES(p:Bool×List Int):yK p=.list p.1 (Ad p.2):=rfl
theorem BB(l:Rows):Hn l=l.map yK:=rfl
theorem Ak(c:GCode):PP c=[.int .i64 c.bits,.int .i64 c.out,.int .i64 c.least,.int .i64 c.most,.list c.nw (Hn c.words),.list c.nn (Hn c.next)]:=rfl
theorem An(c:GCode):Hz c=.agg (PP c):=rfl
def Cw(n lo hi:Int):Bool:=decide (lo<=n/\n<=hi)
def VK(k:Nat)(hi:Int)(p:Bool×List Int):Bool:=decide (p.2.length=k) && p.2.all fun n=>Cw n 0 hi
def GCode.head(c:GCode):Bool:=Cw c.bits 1 2 && Cw c.out 1 5 && Cw c.least 0 c.most && decide (c.most<=12) && decide (1<=c.words.length/\c.words.length<=4) && decide (c.next.length=c.words.length)
def GCode.ok(c:GCode):Bool:=c.head &&
 (c.words.all (VK (2^c.bits.toNat) (2^c.out.toNat-1)) && c.next.all (VK (2^c.bits.toNat) (c.words.length-1)))
def KG(b:Bool)(e:Int):Int:=if b then 0 else e
def at2(l:Rows)(s w:Int):Int:=((l[s.toNat]?.getD default).2)[w.toNat]?.getD 0
def GCode.wrd(c:GCode)(s w:Int):Int:=at2 c.words s w
def GCode.nxt(c:GCode)(s w:Int):Int:=at2 c.next s w
def CJ:Nat->Int->List Int
 |0,_=>[]
 |n+1,w=>w/2^n%2::CJ n w
theorem Hm(n:Nat)(w:Int):(CJ n w).length=n:=by induction n<;>simp[CJ, *]
def GCode.stream(c:GCode)(s:Int):List Int->List Int×Int
 |[]=>([],s)
 |w::l=>let r:=c.stream (c.nxt s w) l;(CJ c.out.toNat (c.wrd s w)++r.1,r.2)
def GCode.isState(c:GCode)(s:Int):Bool:=Cw s 0 (c.words.length-1)
def GCode.isWord(c:GCode)(w:Int):Bool:=Cw w 0 (2^c.bits.toNat-1)
def GCode.isData(c:GCode)(l:List Int):Bool:=decide (l.length<=24) && l.all c.isWord
def GCode.encode(c:GCode)(s:Int)(l:List Int):List Int×Int×Int :=
 if !c.ok then([],0,40)else if !c.isState s then([],0,41)else if !c.isData l then([],0,42)
 else((c.stream s l).1,(c.stream s l).2,0)
theorem GCode.ok_head{c:GCode}(h:c.ok=true):1<=c.bits/\c.bits<=2/\1<=c.out/\c.out<=5/\0<=c.least/\c.least<=c.most/\c.most<=12/\1<=c.words.length/\c.words.length<=4/\c.next.length=c.words.length:=by
 simp[GCode.ok,GCode.head,Cw]at h;omega
theorem Nf{α:Type}[Inhabited α]{l:List α}{i:Nat}(h:i<l.length):l[i]?.getD default∈l:=by
 rw[aa h];exact ay h
theorem D6{l:List Int}{i:Nat}(h:i<l.length):l[i]?.getD 0∈l:=by
 rw[aa h];exact ay h
theorem GCode.ok_words{c:GCode}(h:c.ok=true)(s:Nat)(hs:s<c.words.length):(c.words[s]?.getD default).2.length=2^c.bits.toNat/\∀n,n∈(c.words[s]?.getD default).2->0<=n/\n<=2^c.out.toNat-1:=by
 simp only[GCode.ok,Bool.and_eq_true,ax]at h;have:=h.2.1 _ (Nf hs);simpa[VK,Cw]using this
theorem GCode.ok_next{c:GCode}(h:c.ok=true)(s:Nat)(hs:s<c.next.length):(c.next[s]?.getD default).2.length=2^c.bits.toNat/\∀n,n∈(c.next[s]?.getD default).2->0<=n/\n<=c.words.length-1:=by
 simp only[GCode.ok,Bool.and_eq_true,ax]at h;have:=h.2.2 _ (Nf hs);simpa[VK,Cw]using this
theorem GCode.wrd_eq(c:GCode)(s w:Int):(c.words[s.toNat]?.getD default).2[w.toNat]?.getD 0=c.wrd s w:=rfl
theorem GCode.nxt_eq(c:GCode)(s w:Int):(c.next[s.toNat]?.getD default).2[w.toNat]?.getD 0=c.nxt s w:=rfl
theorem GCode.nxt_state{c:GCode}(h:c.ok=true){s w:Int}(hs:c.isState s=true)(j:c.isWord w=true):c.isState (c.nxt s w)=true:=by
 have hd:=ok_head h;simp only[isState,isWord,Cw,decide_eq_true_eq]at *;have h1:=ok_next h s.toNat (by omega);have e:=P1 (b:=c.bits) (by omega);have:=h1.2 _ (D6 (i:=w.toNat) (by rw[h1.1];omega));rw[nxt_eq]at this;omega
def Ap(xs:List Int):Bool:=xs.all fun n=>Cw n 0 1
def FI:List Int->List Int->Int
 |x::xs,y::ys=>(if x=y then 0 else 1)+FI xs ys
 |_,_=>0
theorem Fk{xs:List Int}(h:Ap xs=true){i:Nat}(hi:i<xs.length):xs[i]?.getD 0=0\/xs[i]?.getD 0=1:=by
 simp only[Ap,ax]at h;have:=h _ (D6 hi);simp[Cw]at this;omega
theorem Hw{xs:List Int}{i:Nat}(h:i<xs.length):xs.drop i=(xs[i]?.getD 0)::xs.drop (i+1):=by
 rw[List.drop_eq_getElem_cons h,aa h,Option.getD_some]
end Go.Pw

/- A part of the proof. -/
import Derived.Test.YtmdklgapccickaaGreatDoorPwInt
set_option linter.all false
namespace Go.Pw
abbrev Rows:=List (Bool×List Int)
structure GCode where
 bits:Int
 out:Int
 least:Int
 most:Int
 nw:Bool
 words:Rows
 nn:Bool
 next:Rows
def ml (p:Bool×List Int):D:=.list p.1 (BU p.2)
def Gv (l:Rows):List D:=l.map ml
def Mx (c:GCode):List D:=[.int .i64 c.bits,.int .i64 c.out,.int .i64 c.least,.int .i64 c.most,.list c.nw (Gv c.words),.list c.nn (Gv c.next)]
def Fo (c:GCode):D:=.agg (Mx c)
theorem DF (p:Bool×List Int):ml p=.list p.1 (BU p.2):=rfl
theorem Ax (l:Rows):Gv l=l.map ml:=rfl
theorem AQ (c:GCode):Mx c=[.int .i64 c.bits,.int .i64 c.out,.int .i64 c.least,.int .i64 c.most,.list c.nw (Gv c.words),.list c.nn (Gv c.next)]:=rfl
theorem AR (c:GCode):Fo c=.agg (Mx c):=rfl
def DE (n lo hi:Int):Bool:=decide (lo<=n/\n<=hi)
def Rs (k:Nat) (hi:Int) (p:Bool×List Int):Bool:=decide (p.2.length=k) && p.2.all fun n=>DE n 0 hi
def GCode.head (c:GCode):Bool:=DE c.bits 1 2 && DE c.out 1 5 && DE c.least 0 c.most && decide (c.most<=12) && decide (1<=c.words.length/\c.words.length<=4) && decide (c.next.length=c.words.length)
def GCode.ok (c:GCode):Bool:=c.head &&
 (c.words.all (Rs (2^c.bits.toNat) (2^c.out.toNat-1)) && c.next.all (Rs (2^c.bits.toNat) (c.words.length-1)))
def Iu (b:Bool) (e:Int):Int:=if b then 0 else e
def sL (l:Rows) (s w:Int):Int:=((l[s.toNat]?.getD default).2)[w.toNat]?.getD 0
def GCode.wrd (c:GCode) (s w:Int):Int:=sL c.words s w
def GCode.nxt (c:GCode) (s w:Int):Int:=sL c.next s w
def B8:Nat->Int->List Int
 |0,_=>[]
 |n+1,w=>w/2^n%2::B8 n w
theorem Fp (n:Nat) (w:Int):(B8 n w).length=n:=by induction n<;>simp[B8, *]
def GCode.stream (c:GCode) (s:Int):List Int->List Int×Int
 |[]=>([],s)
 |w::l=>let r:=c.stream (c.nxt s w) l;(B8 c.out.toNat (c.wrd s w)++r.1,r.2)
def GCode.isState (c:GCode) (s:Int):Bool:=DE s 0 (c.words.length-1)
def GCode.isWord (c:GCode) (w:Int):Bool:=DE w 0 (2^c.bits.toNat-1)
def GCode.isData (c:GCode) (l:List Int):Bool:=decide (l.length<=24) && l.all c.isWord
def GCode.encode (c:GCode) (s:Int) (l:List Int):List Int×Int×Int :=
 if !c.ok then ([],0,40) else if !c.isState s then ([],0,41) else if !c.isData l then ([],0,42)
 else ((c.stream s l).1,(c.stream s l).2,0)
theorem GCode.ok_head {c:GCode}(h:c.ok=true):1<=c.bits/\c.bits<=2/\1<=c.out/\c.out<=5/\0<=c.least/\c.least<=c.most/\c.most<=12/\1<=c.words.length/\c.words.length<=4/\c.next.length=c.words.length:=by
 simp[GCode.ok,GCode.head,DE] at h
 omega
theorem La {α:Type} [Inhabited α] {l:List α}{i:Nat}(h:i<l.length):l[i]?.getD default∈l:=by
 rw[List.getElem?_eq_getElem h];exact List.getElem_mem h
theorem FV {l:List Int}{i:Nat}(h:i<l.length):l[i]?.getD 0∈l:=by
 rw[List.getElem?_eq_getElem h];exact List.getElem_mem h
theorem GCode.ok_words {c:GCode}(h:c.ok=true) (s:Nat) (hs:s<c.words.length):(c.words[s]?.getD default).2.length=2^c.bits.toNat/\∀n,n∈(c.words[s]?.getD default).2->0<=n/\n<=2^c.out.toNat-1:=by
 simp only[GCode.ok,Bool.and_eq_true,List.all_eq_true] at h
 have:=h.2.1 _ (La hs)
 simpa[Rs,DE] using this
theorem GCode.ok_next {c:GCode}(h:c.ok=true) (s:Nat) (hs:s<c.next.length):(c.next[s]?.getD default).2.length=2^c.bits.toNat/\∀n,n∈(c.next[s]?.getD default).2->0<=n/\n<=c.words.length-1:=by
 simp only[GCode.ok,Bool.and_eq_true,List.all_eq_true] at h
 have:=h.2.2 _ (La hs)
 simpa[Rs,DE] using this
theorem GCode.wrd_eq (c:GCode) (s w:Int):(c.words[s.toNat]?.getD default).2[w.toNat]?.getD 0=c.wrd s w:=rfl
theorem GCode.nxt_eq (c:GCode) (s w:Int):(c.next[s.toNat]?.getD default).2[w.toNat]?.getD 0=c.nxt s w:=rfl
theorem GCode.nxt_state {c:GCode}(h:c.ok=true) {s w:Int}(hs:c.isState s=true) (hw:c.isWord w=true):c.isState (c.nxt s w)=true:=by
 have hd:=ok_head h
 simp only[isState,isWord,DE,decide_eq_true_eq] at *
 have h1:=ok_next h s.toNat (by omega)
 have h12:=Jt (b:=c.bits) (by omega)
 have:=h1.2 _ (FV (i:=w.toNat) (by rw[h1.1];omega))
 rw[nxt_eq] at this
 omega
def Bf (xs:List Int):Bool:=xs.all fun n=>DE n 0 1
def Lh:List Int->List Int->Int
 |x::xs,y::ys=>(if x=y then 0 else 1)+Lh xs ys
 |_,_=>0
theorem Lr {xs:List Int}(h:Bf xs=true) {i:Nat}(hi:i<xs.length):xs[i]?.getD 0=0\/xs[i]?.getD 0=1:=by
 simp only[Bf,List.all_eq_true] at h
 have:=h _ (FV hi)
 simp[DE] at this
 omega
theorem JW {xs:List Int}{i:Nat}(h:i<xs.length):xs.drop i=(xs[i]?.getD 0)::xs.drop (i+1):=by
 rw[List.drop_eq_getElem_cons h,List.getElem?_eq_getElem h,Option.getD_some]
end Go.Pw

/- A part of the proof. -/
import Derived.Test.YtibkjeolahobbaaGreatDoorPwInt
set_option linter.all false
namespace Go.Pw
abbrev Rows:=List (Bool×List Int)
structure AR where
 bits:Int
 out:Int
 least:Int
 most:Int
 nw:Bool
 words:Rows
 nn:Bool
 next:Rows
def ml (p:Bool×List Int):D:=.list p.1 (Am p.2)
def C7 (l:Rows):List D:=l.map ml
def MW (c:AR):List D:=[.int .i64 c.bits,.int .i64 c.out,.int .i64 c.least,.int .i64 c.most,.list c.nw (C7 c.words),.list c.nn (C7 c.next)]
def Fw (c:AR):D:=.agg (MW c)
theorem Cg (p:Bool×List Int):ml p=.list p.1 (Am p.2):=rfl
theorem A7 (l:Rows):C7 l=l.map ml:=rfl
theorem A5 (c:AR):MW c=[.int .i64 c.bits,.int .i64 c.out,.int .i64 c.least,.int .i64 c.most,.list c.nw (C7 c.words),.list c.nn (C7 c.next)]:=rfl
theorem A8 (c:AR):Fw c=.agg (MW c):=rfl
def Cw (n lo hi:Int):Bool:=decide (lo<=n/\n<=hi)
def Nc (k:Nat) (hi:Int) (p:Bool×List Int):Bool:=decide (p.2.length=k) && p.2.all fun n=>Cw n 0 hi
def AR.head (c:AR):Bool:=Cw c.bits 1 2 && Cw c.out 1 5 && Cw c.least 0 c.most && decide (c.most<=12) && decide (1<=c.words.length/\c.words.length<=4) && decide (c.next.length=c.words.length)
def AR.ok (c:AR):Bool:=c.head &&
 (c.words.all (Nc (2^c.bits.toNat) (2^c.out.toNat-1)) && c.next.all (Nc (2^c.bits.toNat) (c.words.length-1)))
def LI (b:Bool) (e:Int):Int:=if b then 0 else e
def pu (l:Rows) (s w:Int):Int:=((l[s.toNat]?.getD default).2)[w.toNat]?.getD 0
def AR.wrd (c:AR) (s w:Int):Int:=pu c.words s w
def AR.nxt (c:AR) (s w:Int):Int:=pu c.next s w
def Cu:Nat->Int->List Int
 |0,_=>[]
 |n+1,w=>w/2^n%2::Cu n w
theorem Io (n:Nat) (w:Int):(Cu n w).length=n:=by induction n<;>simp[Cu, *]
def AR.stream (c:AR) (s:Int):List Int->List Int×Int
 |[]=>([],s)
 |w::l=>let r:=c.stream (c.nxt s w) l;(Cu c.out.toNat (c.wrd s w)++r.1,r.2)
def AR.isState (c:AR) (s:Int):Bool:=Cw s 0 (c.words.length-1)
def AR.isWord (c:AR) (w:Int):Bool:=Cw w 0 (2^c.bits.toNat-1)
def AR.isData (c:AR) (l:List Int):Bool:=decide (l.length<=24) && l.all c.isWord
def AR.encode (c:AR) (s:Int) (l:List Int):List Int×Int×Int :=
 if !c.ok then ([],0,40) else if !c.isState s then ([],0,41) else if !c.isData l then ([],0,42)
 else ((c.stream s l).1,(c.stream s l).2,0)
theorem AR.ok_head {c:AR}(h:c.ok=true):1<=c.bits/\c.bits<=2/\1<=c.out/\c.out<=5/\0<=c.least/\c.least<=c.most/\c.most<=12/\1<=c.words.length/\c.words.length<=4/\c.next.length=c.words.length:=by
 simp[AR.ok,AR.head,Cw] at h
 omega
theorem LD {α:Type} [Inhabited α] {l:List α}{i:Nat}(h:i<l.length):l[i]?.getD default∈l:=by
 rw[List.getElem?_eq_getElem h];exact List.getElem_mem h
theorem D2 {l:List Int}{i:Nat}(h:i<l.length):l[i]?.getD 0∈l:=by
 rw[List.getElem?_eq_getElem h];exact List.getElem_mem h
theorem AR.ok_words {c:AR}(h:c.ok=true) (s:Nat) (hs:s<c.words.length):(c.words[s]?.getD default).2.length=2^c.bits.toNat/\∀n,n∈(c.words[s]?.getD default).2->0<=n/\n<=2^c.out.toNat-1:=by
 simp only[AR.ok,Bool.and_eq_true,List.all_eq_true] at h
 have:=h.2.1 _ (LD hs)
 simpa[Nc,Cw] using this
theorem AR.ok_next {c:AR}(h:c.ok=true) (s:Nat) (hs:s<c.next.length):(c.next[s]?.getD default).2.length=2^c.bits.toNat/\∀n,n∈(c.next[s]?.getD default).2->0<=n/\n<=c.words.length-1:=by
 simp only[AR.ok,Bool.and_eq_true,List.all_eq_true] at h
 have:=h.2.2 _ (LD hs)
 simpa[Nc,Cw] using this
theorem AR.wrd_eq (c:AR) (s w:Int):(c.words[s.toNat]?.getD default).2[w.toNat]?.getD 0=c.wrd s w:=rfl
theorem AR.nxt_eq (c:AR) (s w:Int):(c.next[s.toNat]?.getD default).2[w.toNat]?.getD 0=c.nxt s w:=rfl
theorem AR.nxt_state {c:AR}(h:c.ok=true) {s w:Int}(hs:c.isState s=true) (hw:c.isWord w=true):c.isState (c.nxt s w)=true:=by
 have hd:=ok_head h
 simp only[isState,isWord,Cw,decide_eq_true_eq] at *
 have h1:=ok_next h s.toNat (by omega)
 have h12:=O7 (b:=c.bits) (by omega)
 have:=h1.2 _ (D2 (i:=w.toNat) (by rw[h1.1];omega))
 rw[nxt_eq] at this
 omega
def Ao (xs:List Int):Bool:=xs.all fun n=>Cw n 0 1
def B5:List Int->List Int->Int
 |x::xs,y::ys=>(if x=y then 0 else 1)+B5 xs ys
 |_,_=>0
theorem Et {xs:List Int}(h:Ao xs=true) {i:Nat}(hi:i<xs.length):xs[i]?.getD 0=0\/xs[i]?.getD 0=1:=by
 simp only[Ao,List.all_eq_true] at h
 have:=h _ (D2 hi)
 simp[Cw] at this
 omega
theorem Fv {xs:List Int}{i:Nat}(h:i<xs.length):xs.drop i=(xs[i]?.getD 0)::xs.drop (i+1):=by
 rw[List.drop_eq_getElem_cons h,List.getElem?_eq_getElem h,Option.getD_some]
end Go.Pw

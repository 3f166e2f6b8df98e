/- A part of the proof. -/
import Derived.Test.YtibkjeolahobbaaGreatDoorPwInt
set_option linter.all false
namespace Go.Pw
abbrev Rows:=List (Bool×List Int)
structure AW where
 bits:Int
 out:Int
 least:Int
 most:Int
 nw:Bool
 words:Rows
 nn:Bool
 next:Rows
def o0 (p:Bool×List Int):D:=.list p.1 (Aa p.2)
def Bv (l:Rows):List D:=l.map o0
def MA (c:AW):List D:=[.int .i64 c.bits,.int .i64 c.out,.int .i64 c.least,.int .i64 c.most,.list c.nw (Bv c.words),.list c.nn (Bv c.next)]
def FE (c:AW):D:=.agg (MA c)
theorem B3 (p:Bool×List Int):o0 p=.list p.1 (Aa p.2):=rfl
theorem Ao (l:Rows):Bv l=l.map o0:=rfl
theorem Aq (c:AW):MA c=[.int .i64 c.bits,.int .i64 c.out,.int .i64 c.least,.int .i64 c.most,.list c.nw (Bv c.words),.list c.nn (Bv c.next)]:=rfl
theorem Au (c:AW):FE c=.agg (MA c):=rfl
def B_ (n lo hi:Int):Bool:=decide (lo<=n/\n<=hi)
def NL (k:Nat) (hi:Int) (p:Bool×List Int):Bool:=decide (p.2.length=k) && p.2.all fun n=>B_ n 0 hi
def AW.head (c:AW):Bool:=B_ c.bits 1 2 && B_ c.out 1 5 && B_ c.least 0 c.most && decide (c.most<=12) && decide (1<=c.words.length/\c.words.length<=4) && decide (c.next.length=c.words.length)
def AW.ok (c:AW):Bool:=c.head &&
 (c.words.all (NL (2^c.bits.toNat) (2^c.out.toNat-1)) && c.next.all (NL (2^c.bits.toNat) (c.words.length-1)))
def Kk (b:Bool) (e:Int):Int:=if b then 0 else e
def rj (l:Rows) (s w:Int):Int:=((l[s.toNat]?.getD default).2)[w.toNat]?.getD 0
def AW.wrd (c:AW) (s w:Int):Int:=rj c.words s w
def AW.nxt (c:AW) (s w:Int):Int:=rj c.next s w
def CH:Nat->Int->List Int
 |0,_=>[]
 |n+1,w=>w/2^n%2::CH n w
theorem H2 (n:Nat) (w:Int):(CH n w).length=n:=by induction n<;>simp[CH, *]
def AW.stream (c:AW) (s:Int):List Int->List Int×Int
 |[]=>([],s)
 |w::l=>let r:=c.stream (c.nxt s w) l;(CH c.out.toNat (c.wrd s w)++r.1,r.2)
def AW.isState (c:AW) (s:Int):Bool:=B_ s 0 (c.words.length-1)
def AW.isWord (c:AW) (w:Int):Bool:=B_ w 0 (2^c.bits.toNat-1)
def AW.isData (c:AW) (l:List Int):Bool:=decide (l.length<=24) && l.all c.isWord
def AW.encode (c:AW) (s:Int) (l:List Int):List Int×Int×Int :=
 if !c.ok then ([],0,40) else if !c.isState s then ([],0,41) else if !c.isData l then ([],0,42)
 else ((c.stream s l).1,(c.stream s l).2,0)
theorem AW.ok_head {c:AW}(h:c.ok=true):1<=c.bits/\c.bits<=2/\1<=c.out/\c.out<=5/\0<=c.least/\c.least<=c.most/\c.most<=12/\1<=c.words.length/\c.words.length<=4/\c.next.length=c.words.length:=by
 simp[AW.ok,AW.head,B_] at h
 omega
theorem Kg {α:Type} [Inhabited α] {l:List α}{i:Nat}(h:i<l.length):l[i]?.getD default∈l:=by
 rw[List.getElem?_eq_getElem h];exact List.getElem_mem h
theorem Cs {l:List Int}{i:Nat}(h:i<l.length):l[i]?.getD 0∈l:=by
 rw[List.getElem?_eq_getElem h];exact List.getElem_mem h
theorem AW.ok_words {c:AW}(h:c.ok=true) (s:Nat) (hs:s<c.words.length):(c.words[s]?.getD default).2.length=2^c.bits.toNat/\∀n,n∈(c.words[s]?.getD default).2->0<=n/\n<=2^c.out.toNat-1:=by
 simp only[AW.ok,Bool.and_eq_true,List.all_eq_true] at h
 have:=h.2.1 _ (Kg hs)
 simpa[NL,B_] using this
theorem AW.ok_next {c:AW}(h:c.ok=true) (s:Nat) (hs:s<c.next.length):(c.next[s]?.getD default).2.length=2^c.bits.toNat/\∀n,n∈(c.next[s]?.getD default).2->0<=n/\n<=c.words.length-1:=by
 simp only[AW.ok,Bool.and_eq_true,List.all_eq_true] at h
 have:=h.2.2 _ (Kg hs)
 simpa[NL,B_] using this
theorem AW.wrd_eq (c:AW) (s w:Int):(c.words[s.toNat]?.getD default).2[w.toNat]?.getD 0=c.wrd s w:=rfl
theorem AW.nxt_eq (c:AW) (s w:Int):(c.next[s.toNat]?.getD default).2[w.toNat]?.getD 0=c.nxt s w:=rfl
theorem AW.nxt_state {c:AW}(h:c.ok=true) {s w:Int}(hs:c.isState s=true) (hw:c.isWord w=true):c.isState (c.nxt s w)=true:=by
 have hd:=ok_head h
 simp only[isState,isWord,B_,decide_eq_true_eq] at *
 have h1:=ok_next h s.toNat (by omega)
 have h12:=Oi (b:=c.bits) (by omega)
 have:=h1.2 _ (Cs (i:=w.toNat) (by rw[h1.1];omega))
 rw[nxt_eq] at this
 omega
def Al (xs:List Int):Bool:=xs.all fun n=>B_ n 0 1
def B':List Int->List Int->Int
 |x::xs,y::ys=>(if x=y then 0 else 1)+B' xs ys
 |_,_=>0
theorem Et {xs:List Int}(h:Al xs=true) {i:Nat}(hi:i<xs.length):xs[i]?.getD 0=0\/xs[i]?.getD 0=1:=by
 simp only[Al,List.all_eq_true] at h
 have:=h _ (Cs hi)
 simp[B_] at this
 omega
theorem ER {xs:List Int}{i:Nat}(h:i<xs.length):xs.drop i=(xs[i]?.getD 0)::xs.drop (i+1):=by
 rw[List.drop_eq_getElem_cons h,List.getElem?_eq_getElem h,Option.getD_some]
end Go.Pw

/- A part of the proof. -/
import Derived.Test.YtibkjeolahobbaaGreatDoorPwInt
set_option linter.all false
namespace Go.Pw
abbrev Rows:=List (Bool×List Int)
structure AU where
 bits:Int
 out:Int
 least:Int
 most:Int
 nw:Bool
 words:Rows
 nn:Bool
 next:Rows
def kQ (p:Bool×List Int):D:=.list p.1 (Aj p.2)
def E2 (l:Rows):List D:=l.map kQ
def L2 (c:AU):List D:=[.int .i64 c.bits,.int .i64 c.out,.int .i64 c.least,.int .i64 c.most,.list c.nw (E2 c.words),.list c.nn (E2 c.next)]
def HS (c:AU):D:=.agg (L2 c)
theorem DL (p:Bool×List Int):kQ p=.list p.1 (Aj p.2):=rfl
theorem BL (l:Rows):E2 l=l.map kQ:=rfl
theorem BN (c:AU):L2 c=[.int .i64 c.bits,.int .i64 c.out,.int .i64 c.least,.int .i64 c.most,.list c.nw (E2 c.words),.list c.nn (E2 c.next)]:=rfl
theorem BQ (c:AU):HS c=.agg (L2 c):=rfl
def Cp (n lo hi:Int):Bool:=decide (lo<=n/\n<=hi)
def QH (k:Nat) (hi:Int) (p:Bool×List Int):Bool:=decide (p.2.length=k) && p.2.all fun n=>Cp n 0 hi
def AU.head (c:AU):Bool:=Cp c.bits 1 2 && Cp c.out 1 5 && Cp c.least 0 c.most && decide (c.most<=12) && decide (1<=c.words.length/\c.words.length<=4) && decide (c.next.length=c.words.length)
def AU.ok (c:AU):Bool:=c.head &&
 (c.words.all (QH (2^c.bits.toNat) (2^c.out.toNat-1)) && c.next.all (QH (2^c.bits.toNat) (c.words.length-1)))
def Kx (b:Bool) (e:Int):Int:=if b then 0 else e
def oV (l:Rows) (s w:Int):Int:=((l[s.toNat]?.getD default).2)[w.toNat]?.getD 0
def AU.wrd (c:AU) (s w:Int):Int:=oV c.words s w
def AU.nxt (c:AU) (s w:Int):Int:=oV c.next s w
def Cn:Nat->Int->List Int
 |0,_=>[]
 |n+1,w=>w/2^n%2::Cn n w
theorem IQ (n:Nat) (w:Int):(Cn n w).length=n:=by induction n<;>simp[Cn, *]
def AU.stream (c:AU) (s:Int):List Int->List Int×Int
 |[]=>([],s)
 |w::l=>let r:=c.stream (c.nxt s w) l;(Cn c.out.toNat (c.wrd s w)++r.1,r.2)
def AU.isState (c:AU) (s:Int):Bool:=Cp s 0 (c.words.length-1)
def AU.isWord (c:AU) (w:Int):Bool:=Cp w 0 (2^c.bits.toNat-1)
def AU.isData (c:AU) (l:List Int):Bool:=decide (l.length<=24) && l.all c.isWord
def AU.encode (c:AU) (s:Int) (l:List Int):List Int×Int×Int :=
 if !c.ok then ([],0,40) else if !c.isState s then ([],0,41) else if !c.isData l then ([],0,42)
 else ((c.stream s l).1,(c.stream s l).2,0)
theorem AU.ok_head {c:AU}(h:c.ok=true):1<=c.bits/\c.bits<=2/\1<=c.out/\c.out<=5/\0<=c.least/\c.least<=c.most/\c.most<=12/\1<=c.words.length/\c.words.length<=4/\c.next.length=c.words.length:=by
 simp[AU.ok,AU.head,Cp] at h
 omega
theorem Ks {α:Type} [Inhabited α] {l:List α}{i:Nat}(h:i<l.length):l[i]?.getD default∈l:=by
 rw[List.getElem?_eq_getElem h];exact List.getElem_mem h
theorem EC {l:List Int}{i:Nat}(h:i<l.length):l[i]?.getD 0∈l:=by
 rw[List.getElem?_eq_getElem h];exact List.getElem_mem h
theorem AU.ok_words {c:AU}(h:c.ok=true) (s:Nat) (hs:s<c.words.length):(c.words[s]?.getD default).2.length=2^c.bits.toNat/\∀n,n∈(c.words[s]?.getD default).2->0<=n/\n<=2^c.out.toNat-1:=by
 simp only[AU.ok,Bool.and_eq_true,List.all_eq_true] at h
 have:=h.2.1 _ (Ks hs)
 simpa[QH,Cp] using this
theorem AU.ok_next {c:AU}(h:c.ok=true) (s:Nat) (hs:s<c.next.length):(c.next[s]?.getD default).2.length=2^c.bits.toNat/\∀n,n∈(c.next[s]?.getD default).2->0<=n/\n<=c.words.length-1:=by
 simp only[AU.ok,Bool.and_eq_true,List.all_eq_true] at h
 have:=h.2.2 _ (Ks hs)
 simpa[QH,Cp] using this
theorem AU.wrd_eq (c:AU) (s w:Int):(c.words[s.toNat]?.getD default).2[w.toNat]?.getD 0=c.wrd s w:=rfl
theorem AU.nxt_eq (c:AU) (s w:Int):(c.next[s.toNat]?.getD default).2[w.toNat]?.getD 0=c.nxt s w:=rfl
theorem AU.nxt_state {c:AU}(h:c.ok=true) {s w:Int}(hs:c.isState s=true) (hw:c.isWord w=true):c.isState (c.nxt s w)=true:=by
 have hd:=ok_head h
 simp only[isState,isWord,Cp,decide_eq_true_eq] at *
 have h1:=ok_next h s.toNat (by omega)
 have h12:=OH (b:=c.bits) (by omega)
 have:=h1.2 _ (EC (i:=w.toNat) (by rw[h1.1];omega))
 rw[nxt_eq] at this
 omega
def Ap (xs:List Int):Bool:=xs.all fun n=>Cp n 0 1
def Ce:List Int->List Int->Int
 |x::xs,y::ys=>(if x=y then 0 else 1)+Ce xs ys
 |_,_=>0
theorem Ee {xs:List Int}(h:Ap xs=true) {i:Nat}(hi:i<xs.length):xs[i]?.getD 0=0\/xs[i]?.getD 0=1:=by
 simp only[Ap,List.all_eq_true] at h
 have:=h _ (EC hi)
 simp[Cp] at this
 omega
theorem Fi {xs:List Int}{i:Nat}(h:i<xs.length):xs.drop i=(xs[i]?.getD 0)::xs.drop (i+1):=by
 rw[List.drop_eq_getElem_cons h,List.getElem?_eq_getElem h,Option.getD_some]
end Go.Pw

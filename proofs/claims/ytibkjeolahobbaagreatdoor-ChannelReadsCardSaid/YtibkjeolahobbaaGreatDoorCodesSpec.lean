/- A part of the proof. -/
import Derived.Test.YtibkjeolahobbaaGreatDoorPwInt
set_option linter.all false
namespace Go.Pw
abbrev Rows:=List (Bool×List Int)
structure AW where
 bits:Int
 out:Int
 least:Int
 most:Int
 nw:Bool
 words:Rows
 nn:Bool
 next:Rows
def oZ (p:Bool×List Int):D:=.list p.1 (Ab p.2)
def DE (l:Rows):List D:=l.map oZ
def M_ (c:AW):List D:=[.int .i64 c.bits,.int .i64 c.out,.int .i64 c.least,.int .i64 c.most,.list c.nw (DE c.words),.list c.nn (DE c.next)]
def Fz (c:AW):D:=.agg (M_ c)
theorem Cl (p:Bool×List Int):oZ p=.list p.1 (Ab p.2):=rfl
theorem BT (l:Rows):DE l=l.map oZ:=rfl
theorem A9 (c:AW):M_ c=[.int .i64 c.bits,.int .i64 c.out,.int .i64 c.least,.int .i64 c.most,.list c.nw (DE c.words),.list c.nn (DE c.next)]:=rfl
theorem BU (c:AW):Fz c=.agg (M_ c):=rfl
def C1 (n lo hi:Int):Bool:=decide (lo<=n/\n<=hi)
def OK (k:Nat) (hi:Int) (p:Bool×List Int):Bool:=decide (p.2.length=k) && p.2.all fun n=>C1 n 0 hi
def AW.head (c:AW):Bool:=C1 c.bits 1 2 && C1 c.out 1 5 && C1 c.least 0 c.most && decide (c.most<=12) && decide (1<=c.words.length/\c.words.length<=4) && decide (c.next.length=c.words.length)
def AW.ok (c:AW):Bool:=c.head &&
 (c.words.all (OK (2^c.bits.toNat) (2^c.out.toNat-1)) && c.next.all (OK (2^c.bits.toNat) (c.words.length-1)))
def Ld (b:Bool) (e:Int):Int:=if b then 0 else e
def qy (l:Rows) (s w:Int):Int:=((l[s.toNat]?.getD default).2)[w.toNat]?.getD 0
def AW.wrd (c:AW) (s w:Int):Int:=qy c.words s w
def AW.nxt (c:AW) (s w:Int):Int:=qy c.next s w
def C5:Nat->Int->List Int
 |0,_=>[]
 |n+1,w=>w/2^n%2::C5 n w
theorem Iz (n:Nat) (w:Int):(C5 n w).length=n:=by induction n<;>simp[C5, *]
def AW.stream (c:AW) (s:Int):List Int->List Int×Int
 |[]=>([],s)
 |w::l=>let r:=c.stream (c.nxt s w) l;(C5 c.out.toNat (c.wrd s w)++r.1,r.2)
def AW.isState (c:AW) (s:Int):Bool:=C1 s 0 (c.words.length-1)
def AW.isWord (c:AW) (w:Int):Bool:=C1 w 0 (2^c.bits.toNat-1)
def AW.isData (c:AW) (l:List Int):Bool:=decide (l.length<=24) && l.all c.isWord
def AW.encode (c:AW) (s:Int) (l:List Int):List Int×Int×Int :=
 if !c.ok then ([],0,40) else if !c.isState s then ([],0,41) else if !c.isData l then ([],0,42)
 else ((c.stream s l).1,(c.stream s l).2,0)
theorem AW.ok_head {c:AW}(h:c.ok=true):1<=c.bits/\c.bits<=2/\1<=c.out/\c.out<=5/\0<=c.least/\c.least<=c.most/\c.most<=12/\1<=c.words.length/\c.words.length<=4/\c.next.length=c.words.length:=by
 simp[AW.ok,AW.head,C1] at h
 omega
theorem LY {α:Type} [Inhabited α] {l:List α}{i:Nat}(h:i<l.length):l[i]?.getD default∈l:=by
 rw[List.getElem?_eq_getElem h];exact List.getElem_mem h
theorem Dd {l:List Int}{i:Nat}(h:i<l.length):l[i]?.getD 0∈l:=by
 rw[List.getElem?_eq_getElem h];exact List.getElem_mem h
theorem AW.ok_words {c:AW}(h:c.ok=true) (s:Nat) (hs:s<c.words.length):(c.words[s]?.getD default).2.length=2^c.bits.toNat/\∀n,n∈(c.words[s]?.getD default).2->0<=n/\n<=2^c.out.toNat-1:=by
 simp only[AW.ok,Bool.and_eq_true,List.all_eq_true] at h
 have:=h.2.1 _ (LY hs)
 simpa[OK,C1] using this
theorem AW.ok_next {c:AW}(h:c.ok=true) (s:Nat) (hs:s<c.next.length):(c.next[s]?.getD default).2.length=2^c.bits.toNat/\∀n,n∈(c.next[s]?.getD default).2->0<=n/\n<=c.words.length-1:=by
 simp only[AW.ok,Bool.and_eq_true,List.all_eq_true] at h
 have:=h.2.2 _ (LY hs)
 simpa[OK,C1] using this
theorem AW.wrd_eq (c:AW) (s w:Int):(c.words[s.toNat]?.getD default).2[w.toNat]?.getD 0=c.wrd s w:=rfl
theorem AW.nxt_eq (c:AW) (s w:Int):(c.next[s.toNat]?.getD default).2[w.toNat]?.getD 0=c.nxt s w:=rfl
theorem AW.nxt_state {c:AW}(h:c.ok=true) {s w:Int}(hs:c.isState s=true) (hw:c.isWord w=true):c.isState (c.nxt s w)=true:=by
 have hd:=ok_head h
 simp only[isState,isWord,C1,decide_eq_true_eq] at *
 have h1:=ok_next h s.toNat (by omega)
 have h12:=Pt (b:=c.bits) (by omega)
 have:=h1.2 _ (Dd (i:=w.toNat) (by rw[h1.1];omega))
 rw[nxt_eq] at this
 omega
def A8 (xs:List Int):Bool:=xs.all fun n=>C1 n 0 1
def Cs:List Int->List Int->Int
 |x::xs,y::ys=>(if x=y then 0 else 1)+Cs xs ys
 |_,_=>0
theorem Fi {xs:List Int}(h:A8 xs=true) {i:Nat}(hi:i<xs.length):xs[i]?.getD 0=0\/xs[i]?.getD 0=1:=by
 simp only[A8,List.all_eq_true] at h
 have:=h _ (Dd hi)
 simp[C1] at this
 omega
theorem FJ {xs:List Int}{i:Nat}(h:i<xs.length):xs.drop i=(xs[i]?.getD 0)::xs.drop (i+1):=by
 rw[List.drop_eq_getElem_cons h,List.getElem?_eq_getElem h,Option.getD_some]
end Go.Pw

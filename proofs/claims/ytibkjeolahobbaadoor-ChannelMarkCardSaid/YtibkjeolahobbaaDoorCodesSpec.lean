/- A part of the proof. -/
import Derived.Test.YtibkjeolahobbaaDoorPwInt
set_option linter.all false
namespace Go.Pw
abbrev Rows:=List (Bool×List Int)
structure AQ where
 bits:Int
 out:Int
 least:Int
 most:Int
 nw:Bool
 words:Rows
 nn:Bool
 next:Rows
def kC (p:Bool×List Int):D:=.list p.1 (Al p.2)
def GN (l:Rows):List D:=l.map kC
def L2 (c:AQ):List D:=[.int .i64 c.bits,.int .i64 c.out,.int .i64 c.least,.int .i64 c.most,.list c.nw (GN c.words),.list c.nn (GN c.next)]
def HV (c:AQ):D:=.agg (L2 c)
theorem DJ (p:Bool×List Int):kC p=.list p.1 (Al p.2):=rfl
theorem BN (l:Rows):GN l=l.map kC:=rfl
theorem A6 (c:AQ):L2 c=[.int .i64 c.bits,.int .i64 c.out,.int .i64 c.least,.int .i64 c.most,.list c.nw (GN c.words),.list c.nn (GN c.next)]:=rfl
theorem BO (c:AQ):HV c=.agg (L2 c):=rfl
def Cq (n lo hi:Int):Bool:=decide (lo<=n/\n<=hi)
def QE (k:Nat) (hi:Int) (p:Bool×List Int):Bool:=decide (p.2.length=k) && p.2.all fun n=>Cq n 0 hi
def AQ.head (c:AQ):Bool:=Cq c.bits 1 2 && Cq c.out 1 5 && Cq c.least 0 c.most && decide (c.most<=12) && decide (1<=c.words.length/\c.words.length<=4) && decide (c.next.length=c.words.length)
def AQ.ok (c:AQ):Bool:=c.head &&
 (c.words.all (QE (2^c.bits.toNat) (2^c.out.toNat-1)) && c.next.all (QE (2^c.bits.toNat) (c.words.length-1)))
def Kx (b:Bool) (e:Int):Int:=if b then 0 else e
def nj (l:Rows) (s w:Int):Int:=((l[s.toNat]?.getD default).2)[w.toNat]?.getD 0
def AQ.wrd (c:AQ) (s w:Int):Int:=nj c.words s w
def AQ.nxt (c:AQ) (s w:Int):Int:=nj c.next s w
def Cr:Nat->Int->List Int
 |0,_=>[]
 |n+1,w=>w/2^n%2::Cr n w
theorem IQ (n:Nat) (w:Int):(Cr n w).length=n:=by induction n<;>simp[Cr, *]
def AQ.stream (c:AQ) (s:Int):List Int->List Int×Int
 |[]=>([],s)
 |w::l=>let r:=c.stream (c.nxt s w) l;(Cr c.out.toNat (c.wrd s w)++r.1,r.2)
def AQ.isState (c:AQ) (s:Int):Bool:=Cq s 0 (c.words.length-1)
def AQ.isWord (c:AQ) (w:Int):Bool:=Cq w 0 (2^c.bits.toNat-1)
def AQ.isData (c:AQ) (l:List Int):Bool:=decide (l.length<=24) && l.all c.isWord
def AQ.encode (c:AQ) (s:Int) (l:List Int):List Int×Int×Int :=
 if !c.ok then ([],0,40) else if !c.isState s then ([],0,41) else if !c.isData l then ([],0,42)
 else ((c.stream s l).1,(c.stream s l).2,0)
theorem AQ.ok_head {c:AQ}(h:c.ok=true):1<=c.bits/\c.bits<=2/\1<=c.out/\c.out<=5/\0<=c.least/\c.least<=c.most/\c.most<=12/\1<=c.words.length/\c.words.length<=4/\c.next.length=c.words.length:=by
 simp[AQ.ok,AQ.head,Cq] at h
 omega
theorem Ks {α:Type} [Inhabited α] {l:List α}{i:Nat}(h:i<l.length):l[i]?.getD default∈l:=by
 rw[List.getElem?_eq_getElem h];exact List.getElem_mem h
theorem DS {l:List Int}{i:Nat}(h:i<l.length):l[i]?.getD 0∈l:=by
 rw[List.getElem?_eq_getElem h];exact List.getElem_mem h
theorem AQ.ok_words {c:AQ}(h:c.ok=true) (s:Nat) (hs:s<c.words.length):(c.words[s]?.getD default).2.length=2^c.bits.toNat/\∀n,n∈(c.words[s]?.getD default).2->0<=n/\n<=2^c.out.toNat-1:=by
 simp only[AQ.ok,Bool.and_eq_true,List.all_eq_true] at h
 have:=h.2.1 _ (Ks hs)
 simpa[QE,Cq] using this
theorem AQ.ok_next {c:AQ}(h:c.ok=true) (s:Nat) (hs:s<c.next.length):(c.next[s]?.getD default).2.length=2^c.bits.toNat/\∀n,n∈(c.next[s]?.getD default).2->0<=n/\n<=c.words.length-1:=by
 simp only[AQ.ok,Bool.and_eq_true,List.all_eq_true] at h
 have:=h.2.2 _ (Ks hs)
 simpa[QE,Cq] using this
theorem AQ.wrd_eq (c:AQ) (s w:Int):(c.words[s.toNat]?.getD default).2[w.toNat]?.getD 0=c.wrd s w:=rfl
theorem AQ.nxt_eq (c:AQ) (s w:Int):(c.next[s.toNat]?.getD default).2[w.toNat]?.getD 0=c.nxt s w:=rfl
theorem AQ.nxt_state {c:AQ}(h:c.ok=true) {s w:Int}(hs:c.isState s=true) (hw:c.isWord w=true):c.isState (c.nxt s w)=true:=by
 have hd:=ok_head h
 simp only[isState,isWord,Cq,decide_eq_true_eq] at *
 have h1:=ok_next h s.toNat (by omega)
 have h12:=OM (b:=c.bits) (by omega)
 have:=h1.2 _ (DS (i:=w.toNat) (by rw[h1.1];omega))
 rw[nxt_eq] at this
 omega
def Ab (xs:List Int):Bool:=xs.all fun n=>Cq n 0 1
def Bv:List Int->List Int->Int
 |x::xs,y::ys=>(if x=y then 0 else 1)+Bv xs ys
 |_,_=>0
theorem Df {xs:List Int}(h:Ab xs=true) {i:Nat}(hi:i<xs.length):xs[i]?.getD 0=0\/xs[i]?.getD 0=1:=by
 simp only[Ab,List.all_eq_true] at h
 have:=h _ (DS hi)
 simp[Cq] at this
 omega
theorem HL {xs:List Int}{i:Nat}(h:i<xs.length):xs.drop i=(xs[i]?.getD 0)::xs.drop (i+1):=by
 rw[List.drop_eq_getElem_cons h,List.getElem?_eq_getElem h,Option.getD_some]
end Go.Pw

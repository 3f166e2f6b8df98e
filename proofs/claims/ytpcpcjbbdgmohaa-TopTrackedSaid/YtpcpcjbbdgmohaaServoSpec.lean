/- A part of the proof. -/
import Derived.Test.YtpcpcjbbdgmohaaPkVC
set_option linter.all false
namespace Go.Pw
abbrev Al:=Int×Int
def KU (p:Al):D:=.agg [.int .i64 p.1,.int .i64 p.2]
theorem Aj (p:Al):KU p=.agg [.int .i64 p.1,.int .i64 p.2]:=rfl
def BO (l:List Al):List D:=l.map KU
theorem AL (l:List Al):(BO l).length=l.length:=by simp[BO]
theorem DG (l:List Al) (a b:Int):BO l++[.agg [.int .i64 a,.int .i64 b]]=BO (l++[(a,b)]):=by simp[BO,KU]
theorem A3 (l:List Al):Ci 2 (BO l)=True:=Mc fun _=>rfl
theorem FG (l:List Al):(BO l).isEmpty=l.isEmpty:=by cases l<;>rfl
theorem Ag {l:List Al}{i:Nat}{A:D->Prop}:An (BO l)[i]? A=(i<l.length/\A (KU (l[i]?.getD default))):=Gz
structure AH where
 tracks:Int
 step:Int
 move:Int
 noise:Int
 wrong:Int
 nr:Bool
 runout:List Int
def Rb (s:AH):List D:=[.int .i64 s.tracks,.int .i64 s.step,.int .i64 s.move,.int .i64 s.noise,.int .i64 s.wrong,.list s.nr (CT s.runout)]
def Cl (s:AH):D:=.agg (Rb s)
theorem AG (s:AH):Rb s=[.int .i64 s.tracks,.int .i64 s.step,.int .i64 s.move,.int .i64 s.noise,.int .i64 s.wrong,.list s.nr (CT s.runout)]:=rfl
theorem AI (s:AH):Cl s=.agg (Rb s):=rfl
def EU (n lo hi:Int):Bool:=decide (lo<=n/\n<=hi)
theorem WT {α:Type} [Inhabited α] {l:List α}{i:Nat}(h:i<l.length):l[i]?.getD default∈l:=by
 rw[List.getElem?_eq_getElem h];exact List.getElem_mem h
theorem OY {l:List Int}{i:Nat}(h:i<l.length):l[i]?.getD 0∈l:=by
 rw[List.getElem?_eq_getElem h];exact List.getElem_mem h
theorem MY {l:List Int}{p:Int->Bool}:l.all p=true↔∀(j:Nat),j<l.length->p (l[j]?.getD 0)=true:=by
 rw[List.all_eq_true]
 constructor
 ·intro h j hj;exact h _ (OY hj)
 ·intro h x hx
  obtain⟨j,hj,rfl⟩:=List.getElem_of_mem hx
  have:=h j hj
  rwa [List.getElem?_eq_getElem hj,Option.getD_some] at this
theorem S_ {l:List Int}{p:Int->Bool}{j:Nat}(hj:j<l.length) (h:p (l[j]?.getD 0)=false):l.all p=false:=by
 cases ha:l.all p with
 |false=>rfl
 |true=>rw[MY.1 ha j hj] at h;cases h
theorem K4 {α:Type} [Inhabited α] {l:List α}{p:α->Bool}:l.all p=true↔∀(j:Nat),j<l.length->p (l[j]?.getD default)=true:=by
 rw[List.all_eq_true]
 constructor
 ·intro h j hj;exact h _ (WT hj)
 ·intro h x hx
  obtain⟨j,hj,rfl⟩:=List.getElem_of_mem hx
  have:=h j hj
  rwa [List.getElem?_eq_getElem hj,Option.getD_some] at this
theorem Ww {α:Type} [Inhabited α] {l:List α}{p:α->Bool}{j:Nat}(hj:j<l.length) (h:p (l[j]?.getD default)=false):l.all p=false:=by
 cases ha:l.all p with
 |false=>rfl
 |true=>rw[K4.1 ha j hj] at h;cases h
def HS (n:Int):Int:=BR .xor .i64 n (n/2)
def U5:Nat->Int->Int->Int
 |0,_,n=>n
 |k+1,c,n=>if 0<c then U5 k (c/2) (BR .xor .i64 n c) else n
def B_ (c:Int):Int:=U5 8 c 0
theorem WN:∀n:Fin 128,B_ (HS n.val)=n.val/\0<=HS n.val/\HS n.val<=127/\0<=B_ n.val/\B_ n.val<=127/\HS (B_ n.val)=n.val:=by decide +kernel
theorem Kl {n:Int}(h:0<=n/\n<=127):B_ (HS n)=n/\0<=HS n/\HS n<=127/\0<=B_ n/\B_ n<=127/\HS (B_ n)=n:=by
 obtain⟨k,rfl⟩:=Int.eq_ofNat_of_zero_le h.1
 exact WN ⟨k,by omega⟩
def AH.head (s:AH):Bool:=EU s.tracks 1 64 && EU s.step 1 16 && EU s.move 0 64 && EU s.noise 0 16 && EU s.wrong 0 3 && EU s.runout.length 1 16
def AH.ok (s:AH):Bool:=s.runout.all (fun n=>EU n (-16) 16) && s.head
def BS (w:Al):Bool:=EU w.1 (-1) 127 && EU w.2 (-100) 100
def AH.check (s:AH) (l:List Al):Int:=if !s.ok then 20 else if decide (24<l.length) || !l.all BS then 21 else 0
def AH.last (s:AH):Int:=s.step*(s.tracks-1)
def AH.center (s:AH) (t w:Int):Int:=t*s.step+s.runout[((max 0 w)%s.runout.length).toNat]?.getD 0
def AH.agrees (s:AH) (w:Al) (i p:Int):Bool :=
 decide (w.1=-1) || (decide (B_ w.1<s.tracks) && decide (2*max (p-s.center (B_ w.1) i) (-(p-s.center (B_ w.1) i))<=s.step) && decide (max (w.2-(p-s.center (B_ w.1) i)) (-(w.2-(p-s.center (B_ w.1) i)))<=s.noise))
end Go.Pw

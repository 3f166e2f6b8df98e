/- A part of the proof. -/
import Derived.Test.YtpcpcjbbdgmohaaDoorPwInt
import Derived.Test.YtpcpcjbbdgmohaaDoorTwcK
set_option linter.all false
open Go Go.Pw
namespace Go.Pw
def J9 (b:Nat) (s:Int):List Int:=(List.range (4/b)).map fun j=>s/2^((4/b-1-j)*b)%2^b
def Fl (b:Nat) (l:List Int):Int:=l.foldl (fun a w=>a*2^b+w) 0
theorem FA (b:Nat) (s:Int):(J9 b s).length=4/b:=by simp[J9]
theorem W7 {b:Nat}(s w:Int) (h:w∈J9 b s):0<=w/\w<=2^b-1:=by
 simp only[J9,List.mem_map] at h
 obtain⟨j,_,rfl⟩:=h
 have h1:(0:Int)<2^b:=Int.pow_pos (by omega)
 have h2:=Int.emod_nonneg (s/2^((4/b-1-j)*b)) (show (2:Int)^b≠0 by omega)
 have h3:=Int.emod_lt_of_pos (s/2^((4/b-1-j)*b)) h1
 omega
theorem Ue {b:Nat}(hb:b=1\/b=2) {s:Int}(h:0<=s/\s<=15):Fl b (J9 b s)=s:=by
 obtain⟨s,rfl⟩:∃n:Nat,s=(n:Int):=⟨s.toNat,by omega⟩
 rcases hb with rfl|rfl
 ·show (((0*2+(s:Int)/8%2)*2+(s:Int)/4%2)*2+(s:Int)/2%2)*2+(s:Int)/1%2=s
  omega
 ·show ((0*4+(s:Int)/4%4)*4+(s:Int)/1%4)=s
  omega
theorem XN {b:Nat}(hb:b=1\/b=2) {l:List Int}(hl:l.length=4/b) (h:∀w,w∈l->0<=w/\w<=2^b-1):0<=Fl b l/\Fl b l<=15:=by
 rcases hb with rfl|rfl
 ·match l,hl with
  |[x,y,z,w],_ =>
   have h1:=h x (by simp);have h2:=h y (by simp);have h3:=h z (by simp);have h4:=h w (by simp)
   simp only[Fl,List.foldl]
   omega
 ·match l,hl with
  |[x,y],_ =>
   have h1:=h x (by simp);have h2:=h y (by simp)
   simp only[Fl,List.foldl]
   omega
theorem VO (b:Nat) (l:List Int) (w:Int):Fl b (l++[w])=Fl b l*2^b+w:=by simp[Fl]
def Ld (n:Nat) (sy:Int) (out:List Int) (f:Int):List Int:=if 0<=f/\f/n=sy then out.set (f%n).toNat (1-out[(f%n).toNat]?.getD 0) else out
def Lc (n:Nat) (sy:Int) (bits flips:List Int):List Int:=flips.foldl (Ld n sy) bits
theorem WI (n:Nat) (sy:Int) (bits l:List Int) (f:Int):Lc n sy bits (l++[f])=Ld n sy (Lc n sy bits l) f:=by simp[Lc]
theorem SJ (n:Nat) (sy:Int) (out:List Int) (f:Int):(Ld n sy out f).length=out.length:=by unfold Ld;split<;>simp
theorem N' (n:Nat) (sy:Int) (l:List Int):∀bits:List Int,(Lc n sy bits l).length=bits.length:=by
 induction l with
 |nil=>intro bits;rfl
 |cons f l ih=>intro bits;show (Lc n sy (Ld n sy bits f) l).length=_;rw[ih,SJ]
def GCode.stm (c:GCode) (s:Nat):List Int:=(c.stream 0 (J9 c.bits.toNat s)).1
def GCode.sz (c:GCode):Nat:=4/c.bits.toNat * c.out.toNat
theorem NK (c:GCode) (s:Nat):(c.stm s).length=c.sz:=by unfold GCode.stm GCode.sz;rw[Kj,FA]
theorem NY {c:GCode}(h:c.ok=true):c.bits.toNat=1\/c.bits.toNat=2:=by have:=GCode.ok_head h;omega
theorem S9 {c:GCode}(h:c.ok=true):2<=c.sz/\c.sz<=20:=by
 have h1:=GCode.ok_head h
 unfold GCode.sz
 have h2:1<=c.out.toNat/\c.out.toNat<=5:=by omega
 rcases NY h with h3|h3<;>rw[h3]<;>simp<;>omega
theorem XO {c:GCode}(h:c.ok=true) (s:Nat):c.stm s≠[]:=fun e=>by
 have:=NK c s
 rw[e] at this
 have:=S9 h
 simp at *;omega
theorem P3:∀(n:Nat) (w:Int),BR (CW n w)=true
 |0,_=>rfl
 |n+1,w=>by
  show (Dp (w/2^n%2) 0 1 && BR (CW n w))=true
  rw[P3 n w,Bool.and_true]
  simp only[Dp,decide_eq_true_eq];omega
theorem Sk {a b:List Int}(ha:BR a=true) (hb:BR b=true):BR (a++b)=true:=by
 simp only[BR,List.all_eq_true,List.mem_append] at *
 exact fun x hx=>hx.elim (ha x) (hb x)
theorem Mh (c:GCode):∀(l:List Int) (s:Int),BR (c.stream s l).1=true
 |[],_=>rfl
 |w::l,s=>Sk (P3 ..) (Mh c l _)
theorem GU (c:GCode) (s:Nat):BR (c.stm s)=true:=Mh ..
theorem Kg {c:GCode}(h:c.ok=true) (s:Int):∀w,w∈J9 c.bits.toNat s->c.isWord w=true:=fun w hw=>by
 have h1:=W7 s w hw
 simp only[GCode.isWord,Dp,decide_eq_true_eq];exact h1
theorem H2 {c:GCode}(h:c.ok=true):c.isState 0=true:=by
 have:=GCode.ok_head h
 simp only[GCode.isState,Dp,decide_eq_true_eq];omega
theorem Sz {c:GCode}(h:c.ok=true) (s:Int):c.isData (J9 c.bits.toNat s)=true:=by
 simp only[GCode.isData,Bool.and_eq_true,decide_eq_true_eq,List.all_eq_true]
 refine⟨?_,Kg h s⟩
 rw[FA]
 rcases NY h with h1|h1<;>rw[h1]<;>omega
theorem U7 {c:GCode}(h:c.ok=true) (s:Nat):c.encode 0 (J9 c.bits.toNat s)=(c.stm s,(c.stream 0 (J9 c.bits.toNat s)).2,0):=by
 unfold GCode.encode GCode.stm
 simp[h,H2 h,Sz h]
end Go.Pw

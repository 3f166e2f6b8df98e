/- A part of the proof. -/
import Derived.Test.YtpcpcjbbdgmohaaPgTkH
import Derived.Test.YtpcpcjbbdgmohaaPgTkServoO
import Derived.Test.YtpcpcjbbdgmohaaPgTkServoK
import Derived.Test.YtpcpcjbbdgmohaaPgTkServoA
import Derived.Test.YtpcpcjbbdgmohaaServoT
import Derived.Test.YtpcpcjbbdgmohaaPgTkB
set_option linter.all false
section
open Go Go.Pw Go.Proofs
namespace Go.Pw
set_option maxRecDepth 100000
set_option maxHeartbeats 3200000
theorem Qf {s:AH}{l:List Al}(hc:s.check l=0) (hl:0<l.length) {p:List Int}(hp:s.PathP l.length p) (hm:s.misread l p<=s.wrong):(s.ahead l 0).2=0/\Fl (s.ahead l 0).1 (p[l.length-1]?.getD 0):=by
 have hok:=(Dq hc).1
 have hpl:=hp.1
 have hend:=Z6 hok (l:=l) (P:=OJ p) (by omega) (Vn hp)
 unfold AH.misread at hm
 rw[hpl] at hm
 have hb:=hp.2.1 (l.length-1) (by omega)
 have hw:(s.endL l)[(p[l.length-1]?.getD 0).toNat]?.getD 0<=s.wrong:=Int.le_trans hend hm
 have hz:=Ff hok l
 have hmin:¬s.wrong<H7 (s.endL l):=by
  have:=(OS (l:=s.endL l) (by omega)).2 _ (OY (l:=s.endL l) (i:=(p[l.length-1]?.getD 0).toNat) (by omega))
  omega
 have hk:s.known l true=0:=by simp[AH.known,hc,hmin]
 have hin:EU 0 0 24=true:=rfl
 unfold AH.ahead
 rw[hin,hk]
 refine⟨rfl,?_⟩
 show Fl (s.laterL l 0) _
 exact((R_ hok l (more:=0) (by omega)).2 _).2 ⟨hb.1,hb.2,_,⟨hb.1,hb.2,hw⟩,by omega,by omega⟩
theorem UC {s:AH}(hok:s.ok=true) (l:List Al) (k:Int):(s.laterL l k).length<=1009:=by
 have h1:=H' (k*s.move) s.last (s.endsL l) (s.endsL l).length (by omega)
 rw[List.take_of_length_le (by omega)] at h1
 have h4:=Fv (fun p=>decide ((s.endL l)[p]?.getD 0<=s.wrong)) (s.endL l).length
 have:=Ff hok l
 have:=Cp hok
 change (s.endsL l).length<=_ at h4
 change (EA (k*s.move) s.last (s.endsL l)).length<=_
 omega
theorem U4 {s:AH}(hok:s.ok=true) (l:List Al):(s.ahead l 0).1.length<=1009:=by
 unfold AH.ahead
 split
 ·exact UC hok l 0
 ·exact Nat.zero_le _
theorem Sc {s:AH}{l:List Al}(hc:s.check l=0) (n:Nat):s.check (l.take n)=0:=by
 obtain⟨h1,h2,h3⟩:=Dq hc
 have h4:(l.take n).all BS=true:=by
  rw[List.all_eq_true] at h2 ⊢
  exact fun x hx=>h2 x (List.mem_of_mem_take hx)
 have h5:¬24<(l.take n).length:=by rw[List.length_take];omega
 unfold AH.check
 rw[h1,h4,decide_eq_false h5];rfl
def LH (a:Ao) (es:List Ay) (f:BT) (ks:List Int) (m:Nat):List Int:=(List.range (m+1)).map fun i=>(FQ a es f ks i).at'
theorem QK (a:Ao) (es:List Ay) (f:BT) (ks:List Int) (m:Nat):(LH a es f ks m).length=m+1:=by simp[LH]
theorem ZV (a:Ao) (es:List Ay) (f:BT) (ks:List Int):LH a es f ks 0=[f.at']:=rfl
theorem Tn (a:Ao) (es:List Ay) (f:BT) (ks:List Int) (m:Nat):LH a es f ks m++[(FQ a es f ks (m+1)).at']=LH a es f ks (m+1):=by simp[LH,List.range_succ]
theorem Mw {a:Ao}{es:List Ay}{f:BT}{ks:List Int}{m j:Nat}(h:j<=m):(LH a es f ks m)[j]?.getD 0=(FQ a es f ks j).at':=by
 unfold LH
 rw[List.getElem?_map,List.getElem?_range (by omega)];rfl
theorem VT {a:Ao}{es:List Ay}{f:BT}{ks:List Int}{m j:Nat}(h:j<m):(Mt a es f ks m)[j]?.getD default=FQ a es f ks (j+1):=by
 unfold Mt
 rw[List.getElem?_map,List.getElem?_range h];rfl
def Jv (a:Ao) (s:AH):AH:=⟨IntKind.i64.wrap (a.last+1),1,a.speed,s.noise,s.wrong,s.nr,s.runout⟩
theorem Vk {a:Ao}(g:a.Good) {p:BT->Bool}{m:Int}{es:List Ay}(h:HX a p m es) {f:BT}{n:Int}(hs:Co es f=some n) {ks:List Int}(hk:∀i,i<ks.length->-a.shake<=ks[i]?.getD 0/\ks[i]?.getD 0<=a.shake)
  (s:AH) {k:Nat}(k1:k<=ks.length+1):(Jv a s).PathP k ((LH a es f ks ks.length).take k):=by
 have g1:=g.l
 have hlast:(Jv a s).last=a.last:=by
  unfold AH.last Jv
  show 1*(IntKind.i64.wrap (a.last+1)-1)=a.last
  rw[Aw _ (by omega)];omega
 have hlen:((LH a es f ks ks.length).take k).length=k:=by rw[List.length_take,QK];omega
 have hget:∀j,j<k->((LH a es f ks ks.length).take k)[j]?.getD 0=(FQ a es f ks j).at':=fun j hj=>by
  rw[List.getElem?_take,if_pos hj]
  exact Mw (by omega)
 have hhas:∀j,j<=ks.length->a.has (FQ a es f ks j)=true:=fun j hj=>by
  obtain⟨v,hv,_⟩:=MU h hs hk j hj
  exact(Ou h hv).1
 refine⟨hlen,fun j hj=>?_,fun j hj=>?_⟩
 ·rw[hlen] at hj
  rw[hget j hj,hlast]
  exact(Kj.1 (hhas j (by omega))).1
 ·rw[hlen] at hj
  rw[hget j (by omega),hget (j+1) hj]
  have h1:=(Kj.1 (hhas (j+1) (by omega))).2
  have h2:(FQ a es f ks (j+1)).at'=(FQ a es f ks j).at'+(FQ a es f ks (j+1)).sp:=rfl
  show _<=a.speed/\_<=a.speed
  omega
theorem Vl {a:Ao}(g:a.Good) {t:Int}(ht:Eg t 0 a.last=true) {m:Int}{es:List Ay}(h:HX a (I_ a t) m es) {f:BT}{n:Int}(hs:Co es f=some n) {ks:List Int}(hk:∀i,i<ks.length->-a.shake<=ks[i]?.getD 0/\ks[i]?.getD 0<=a.shake)
  {k:Nat}(k1:k<=ks.length) (hn:n<=k):t-a.gate<=(FQ a es f ks k).at'/\(FQ a es f ks k).at'<=t+a.gate:=by
 obtain⟨v,hv,v0,v1⟩:=MU h hs hk k k1
 obtain⟨h1,h2⟩:=Ou h hv
 have h3:=h2 (by omega)
 have h4:=(Kj.1 h1).1
 have h5:=I4.1 ht
 have g1:=g.l
 unfold I_ at h3
 rw[Bool.and_eq_true,I4,Aw _ (by omega)] at h3
 omega
theorem Qj:TL Yq 3 ⟨0,0⟩=0/\Co (GX Yq 3) ⟨0,0⟩=some 3:=by decide +kernel
theorem QL (l:List Al) (n:Nat):(BO l).take n=BO (l.take n):=by simp[BO,List.map_take]
attribute [local congr] DH Bv Bw BW DJ Bd Bf Be BV BH A' A0 BZ BA Ba BF Bc BG B1 CX BE B4 B5 B2 Bz B0 Bu DI Bx BX BC BB BD Bb B3
attribute [local irreducible] IntKind.wrap BR Option.getD and or
theorem L7:C6 E0 JZ [] (.bool true):=by
 refine AU MI A1 (by simp) fun hwf=>?_
 have c1:=Kg
 have c2:=HC MW false NF
 have c3:=Kf
 have c4:=JX Yq 3 ⟨0,0⟩ Qj.1
 rw[Qj.2] at c4
 rw[Wc] at c2
 obtain⟨C,hC⟩:∃C,FE Yq (GX Yq 3) ⟨0,0⟩=C:=⟨_,rfl⟩
 dsimp only at c2 c4
 rw[hC] at c4
 rw[show Cl MW=.agg [.int .i64 4,.int .i64 4,.int .i64 2,.int .i64 1,.int .i64 0,.list false (CT [0,1])] from rfl] at c1 c2
 rw[show Ek bt=.agg [.int .i64 6,.int .i64 2,.int .i64 3,.int .i64 1,.int .i64 1,.int .i64 2] from rfl,show Ek Yq=.agg [.int .i64 6,.int .i64 2,.int .i64 3,.int .i64 0,.int .i64 0,.int .i64 0] from rfl] at c3
 rw[show Ek Yq=.agg [.int .i64 6,.int .i64 2,.int .i64 3,.int .i64 0,.int .i64 0,.int .i64 0] from rfl,show El ⟨0,0⟩=.agg [.int .i64 0,.int .i64 0] from rfl] at c4
 rw[show BO [(6,8)]=[.agg [.int .i64 6,.int .i64 8]] from rfl,show ([(6,8)]:List Al).isEmpty=false from rfl] at c2
 rw[Ae];unfold Hu
 (try (simp -implicitDefEqProofs only[go_sem]));repeat' first|(with_reducible first|exact tI|refine aI ?_ ?_|intro _)|((first|with_reducible refine AW ?_ ?_<;>intro _|(with_reducible refine isCall ?_);first|refine AD c1 ?_|refine AD c2 ?_|refine AD c3 ?_|refine AD c4 ?_)<;>try (simp -implicitDefEqProofs only[go_sem]))|simp (disch:=omega) only[Au]
 all_goals first|omega|(exfalso;omega)
end Go.Pw
end
section
open Go Go.Pw Go.Proofs
namespace Go.Pw
set_option maxRecDepth 100000
set_option maxHeartbeats 6400000
theorem Zy (a:Ao) (s:AH):Cl (Jv a s)=.agg [.int .i64 (IntKind.i64.wrap (a.last+1)),.int .i64 1,.int .i64 a.speed,.int .i64 s.noise,.int .i64 s.wrong,.list s.nr (CT s.runout)]:=rfl
theorem XK {a:Ao}{t:Int}{s:BT}(h:TL a t s=0):a.ok=true/\Eg t 0 a.last=true/\a.has s=true:=by
 unfold TL at h
 cases h1:a.ok with
 |false=>rw[h1] at h;simp at h
 |true =>
  rw[h1,if_pos rfl] at h
  cases h2:Eg t 0 a.last with
  |false=>rw[h2] at h;simp at h
  |true =>
   rw[h2,if_pos rfl] at h
   cases h3:a.has s with
   |false=>rw[h3] at h;simp at h
   |true=>exact⟨rfl,rfl,rfl⟩
def LO (Q:Int) (q:Al):Bool:=decide (q.1<=Q) && decide (Q<=q.2)
def V6 (lo hi:Int) (q:Al):Bool:=decide (q.1<=hi) && decide (lo<=q.2)
theorem Q_ {L:List Al}{i:Nat}(h:i<L.length) (p:Al->Bool):(L.take (i+1)).any p=((L.take i).any p || p (L[i]?.getD default)):=by
 rw[List.take_add_one,List.getElem?_eq_getElem h,Option.toList_some,List.any_append,Option.getD_some];simp
theorem YF {L:List Al}{Q:Int}(h:Fl L Q):L.any (LO Q)=true:=by
 obtain⟨q,hq,h1,h2⟩:=h
 rw[List.any_eq_true]
 exact⟨q,hq,by unfold LO;rw[decide_eq_true h1,decide_eq_true h2];rfl⟩
theorem Zd {L:List Al}{Q lo hi:Int}(h:Fl L Q) (h1:lo<=Q) (h2:Q<=hi):L.any (V6 lo hi)=true:=by
 obtain⟨q,hq,h3,h4⟩:=h
 rw[List.any_eq_true]
 exact⟨q,hq,by unfold V6;rw[decide_eq_true (by omega),decide_eq_true (by omega)];rfl⟩
theorem aq {Q:Int}{q:Al}(h1:q.1<=Q) (h2:Q<=q.2):LO Q q=true:=by unfold LO;rw[decide_eq_true h1,decide_eq_true h2];rfl
theorem au {Q:Int}{q:Al}(h1:¬q.1<=Q):LO Q q=false:=by unfold LO;rw[decide_eq_false h1];rfl
theorem ar {Q:Int}{q:Al}(h1:¬Q<=q.2):LO Q q=false:=by unfold LO;rw[decide_eq_false h1];simp
theorem bX {lo hi:Int}{q:Al}(h1:q.1<=hi) (h2:lo<=q.2):V6 lo hi q=true:=by unfold V6;rw[decide_eq_true h1,decide_eq_true h2];rfl
theorem ba {lo hi:Int}{q:Al}(h1:¬q.1<=hi):V6 lo hi q=false:=by unfold V6;rw[decide_eq_false h1];rfl
theorem bZ {lo hi:Int}{q:Al}(h1:¬lo<=q.2):V6 lo hi q=false:=by unfold V6;rw[decide_eq_false h1];simp
attribute [local congr] DH Bv Bw BW DJ Bd Bf Be BV BH A' A0 BZ BA Ba BF Bc BG B1 CX BE B4 B5 B2 Bz B0 Bu DI Bx BX BC BB BD Bb B3
attribute [local irreducible] IntKind.wrap BR Option.getD and or
theorem Jk (a:Ao) (s:AH) (t:Int) (f:BT) (nk:Bool) (ks:List Int) (nw:Bool) (l:List Al) :
  C6 E0 Gm [Ek a,Cl s,.agg [.int .i64 t,.int .i64 f.at',.int .i64 f.sp,.list nk (CT ks),.list nw (BO l)]] (.bool true):=by
 refine AU Jx A1 (by simp) fun hwf=>?_
 simp only[EZ,D_,D9,Dw,E5,E4,HB,E3,CJ,Cf,Cg,EB,Cu,List.length_map,Cz,true_and,and_true,AL,AI,AG] at hwf
 have c1:=Ni a
 have cT:=L7
 have c2:=Hq a t f
 rw[AM,AF] at c1
 rw[AM,AF,AX,AQ] at c2
 rw[Ae];unfold F0
 cases hf:Zz a with
 |true =>
  rw[hf] at c1
  (try (simp -implicitDefEqProofs only[go_sem,AM,AF,AI,AG]));repeat' first|(with_reducible first|exact tI|refine aI ?_ ?_|intro _)|((first|with_reducible refine AW ?_ ?_<;>intro _|(with_reducible refine isCall ?_);first|refine AD c1 ?_|refine AD cT ?_)<;>try (simp -implicitDefEqProofs only[go_sem,AM,AF,AI,AG]))|simp (disch:=omega) only[Au]|((with_reducible refine A6 ?_);refine⟨(_,_,_),rfl,?_,?_⟩)|((with_reducible refine BN ?_);refine⟨(_,_),rfl,?_,?_⟩)|((with_reducible refine BP ?_);refine⟨_,rfl,?_,?_⟩)
  all_goals first|omega|rfl|trace_state
 |false =>
 rw[hf] at c1
 by_cases hst:TL a t f=0
 case neg =>
  obtain⟨e,he⟩:∃e,TL a t f=e:=⟨_,rfl⟩
  rw[he] at c2 hst
  (try (simp -implicitDefEqProofs only[go_sem,AM,AF,AI,AG,hst]));repeat' first|(with_reducible first|exact tI|refine aI ?_ ?_|intro _)|((first|with_reducible refine AW ?_ ?_<;>intro _|(with_reducible refine isCall ?_);first|refine AD c1 ?_|refine AD c2 ?_|refine AD cT ?_)<;>try (simp -implicitDefEqProofs only[go_sem,AM,AF,AI,AG,hst]))|simp (disch:=omega) only[Au]|((with_reducible refine A6 ?_);refine⟨(_,_,_),rfl,?_,?_⟩)|((with_reducible refine BN ?_);refine⟨(_,_),rfl,?_,?_⟩)|((with_reducible refine BP ?_);refine⟨_,rfl,?_,?_⟩)
  all_goals first|omega|rfl|trace_state
 rw[hst] at c2
 obtain⟨hok,hti,hhas⟩:=XK hst
 have g:=IV hok
 by_cases h6:6<a.last
 ·(try (simp -implicitDefEqProofs only[go_sem,AM,AF,AI,AG,h6]));repeat' first|(with_reducible first|exact tI|refine aI ?_ ?_|intro _)|((first|with_reducible refine AW ?_ ?_<;>intro _|(with_reducible refine isCall ?_);first|refine AD c1 ?_|refine AD c2 ?_|refine AD cT ?_)<;>try (simp -implicitDefEqProofs only[go_sem,AM,AF,AI,AG,h6]))|simp (disch:=omega) only[Au]|((with_reducible refine A6 ?_);refine⟨(_,_,_),rfl,?_,?_⟩)|((with_reducible refine BN ?_);refine⟨(_,_),rfl,?_,?_⟩)|((with_reducible refine BP ?_);refine⟨_,rfl,?_,?_⟩)
  all_goals first|omega|rfl|trace_state
 by_cases h7:(7:Int)<(ks.length:Int)
 ·(try (simp -implicitDefEqProofs only[go_sem,AM,AF,AI,AG,h6,h7]));repeat' first|(with_reducible first|exact tI|refine aI ?_ ?_|intro _)|((first|with_reducible refine AW ?_ ?_<;>intro _|(with_reducible refine isCall ?_);first|refine AD c1 ?_|refine AD c2 ?_|refine AD cT ?_)<;>try (simp -implicitDefEqProofs only[go_sem,AM,AF,AI,AG,h6,h7]))|simp (disch:=omega) only[Au]|((with_reducible refine A6 ?_);refine⟨(_,_,_),rfl,?_,?_⟩)|((with_reducible refine BN ?_);refine⟨(_,_),rfl,?_,?_⟩)|((with_reducible refine BP ?_);refine⟨_,rfl,?_,?_⟩)
  all_goals first|omega|rfl|trace_state
 have c3:=JB a g nk ks
 rw[AM,AF] at c3
 cases hk:O' a ks with
 |false =>
  rw[hk] at c3
  (try (simp -implicitDefEqProofs only[go_sem,AM,AF,AI,AG,h6,h7]));repeat' first|(with_reducible first|exact tI|refine aI ?_ ?_|intro _)|((first|with_reducible refine AW ?_ ?_<;>intro _|(with_reducible refine isCall ?_);first|refine AD c1 ?_|refine AD c2 ?_|refine AD c3 ?_|refine AD cT ?_)<;>try (simp -implicitDefEqProofs only[go_sem,AM,AF,AI,AG,h6,h7]))|simp (disch:=omega) only[Au]|((with_reducible refine A6 ?_);refine⟨(_,_,_),rfl,?_,?_⟩)|((with_reducible refine BN ?_);refine⟨(_,_),rfl,?_,?_⟩)|((with_reducible refine BP ?_);refine⟨_,rfl,?_,?_⟩)
  all_goals first|omega|rfl|trace_state
 |true =>
 rw[hk] at c3
 have c4:=Nj (Jv a s) nw l
 rw[Zy] at c4
 cases hfar:(Jv a s).far l with
 |true =>
  rw[hfar] at c4
  (try (simp -implicitDefEqProofs only[go_sem,AM,AF,AI,AG,h6,h7]));repeat' first|(with_reducible first|exact tI|refine aI ?_ ?_|intro _)|((first|with_reducible refine AW ?_ ?_<;>intro _|(with_reducible refine isCall ?_);first|refine AD c1 ?_|refine AD c2 ?_|refine AD c3 ?_|refine AD c4 ?_|refine AD cT ?_)<;>try (simp -implicitDefEqProofs only[go_sem,AM,AF,AI,AG,h6,h7]))|simp (disch:=omega) only[Au]|((with_reducible refine A6 ?_);refine⟨(_,_,_),rfl,?_,?_⟩)|((with_reducible refine BN ?_);refine⟨(_,_),rfl,?_,?_⟩)|((with_reducible refine BP ?_);refine⟨_,rfl,?_,?_⟩)
  all_goals first|omega|rfl|trace_state
 |false =>
 rw[hfar] at c4
 have c5:=MG (Jv a s) nw l
 rw[Zy] at c5
 by_cases hc:(Jv a s).check l=0
 case neg =>
  obtain⟨e,he⟩:∃e,(Jv a s).check l=e:=⟨_,rfl⟩
  rw[he] at c5 hc
  (try (simp -implicitDefEqProofs only[go_sem,AM,AF,AI,AG,h6,h7,hc]));repeat' first|(with_reducible first|exact tI|refine aI ?_ ?_|intro _)|((first|with_reducible refine AW ?_ ?_<;>intro _|(with_reducible refine isCall ?_);first|refine AD c1 ?_|refine AD c2 ?_|refine AD c3 ?_|refine AD c4 ?_|refine AD c5 ?_|refine AD cT ?_)<;>try (simp -implicitDefEqProofs only[go_sem,AM,AF,AI,AG,h6,h7,hc]))|simp (disch:=omega) only[Au]|((with_reducible refine A6 ?_);refine⟨(_,_,_),rfl,?_,?_⟩)|((with_reducible refine BN ?_);refine⟨(_,_),rfl,?_,?_⟩)|((with_reducible refine BP ?_);refine⟨_,rfl,?_,?_⟩)
  all_goals first|omega|rfl|trace_state
 rw[hc] at c5
 have hwk:IntKind.i64.wrap ((ks.length:Int)+1)=(ks.length:Int)+1:=Aw _ (by omega)
 by_cases hlen:(l.length:Int)=(ks.length:Int)+1
 case neg =>
  (try (simp -implicitDefEqProofs only[go_sem,AM,AF,AI,AG,h6,h7,AL,hwk,hlen]));repeat' first|(with_reducible first|exact tI|refine aI ?_ ?_|intro _)|((first|with_reducible refine AW ?_ ?_<;>intro _|(with_reducible refine isCall ?_);first|refine AD c1 ?_|refine AD c2 ?_|refine AD c3 ?_|refine AD c4 ?_|refine AD c5 ?_|refine AD cT ?_)<;>try (simp -implicitDefEqProofs only[go_sem,AM,AF,AI,AG,h6,h7,AL,hwk,hlen]))|simp (disch:=omega) only[Au]|((with_reducible refine A6 ?_);refine⟨(_,_,_),rfl,?_,?_⟩)|((with_reducible refine BN ?_);refine⟨(_,_),rfl,?_,?_⟩)|((with_reducible refine BP ?_);refine⟨_,rfl,?_,?_⟩)
  all_goals first|omega|rfl|trace_state
 have c6:=Q5 a t f nk ks hst hk
 have c7:=JX a t f hst
 rw[AM,AF,AX,AQ] at c6 c7
 obtain⟨hk200,hkg⟩:=Su hk
 obtain⟨m,hG⟩:=OI a (I_ a t)
 change HX a (I_ a t) m (GX a t) at hG
 cases hv:Co (GX a t) f with
 |none =>
  have hm:CA (GX a t) f=false:=by unfold CA;rw[hv];rfl
  rw[hm,if_neg (by simp)] at c6
  rw[hv] at c7
  dsimp only at c7
  (try (simp -implicitDefEqProofs only[go_sem,AM,AF,AI,AG,h6,h7,AL,hwk,hlen]));repeat' first|(with_reducible first|exact tI|refine aI ?_ ?_|intro _)|((first|with_reducible refine AW ?_ ?_<;>intro _|(with_reducible refine isCall ?_);first|refine AD c1 ?_|refine AD c2 ?_|refine AD c3 ?_|refine AD c4 ?_|refine AD c5 ?_|refine AD c6 ?_|refine AD c7 ?_|refine AD cT ?_)<;>try (simp -implicitDefEqProofs only[go_sem,AM,AF,AI,AG,h6,h7,AL,hwk,hlen]))|simp (disch:=omega) only[Au]|((with_reducible refine A6 ?_);refine⟨(_,_,_),rfl,?_,?_⟩)|((with_reducible refine BN ?_);refine⟨(_,_),rfl,?_,?_⟩)|((with_reducible refine BP ?_);refine⟨_,rfl,?_,?_⟩)
  all_goals first|omega|rfl|trace_state
 |some n0 =>
 have hm:CA (GX a t) f=true:=by unfold CA;rw[hv];rfl
 rw[hm,if_pos rfl] at c6
 rw[hv] at c7
 dsimp only at c7
 obtain⟨es,hes⟩:∃es,GX a t=es:=⟨_,rfl⟩
 rw[hes] at hG hv c6 c7 hm
 obtain⟨C,hC⟩:∃C,FE a es f=C:=⟨_,rfl⟩
 rw[hC] at c7
 have hrl:=QE a es f ks ks.length
 have hrg:=fun j hj=>@VT a es f ks ks.length j hj
 obtain⟨R,hR⟩:∃R,Mt a es f ks ks.length=R:=⟨_,rfl⟩
 rw[hR] at c6 hrl
 simp only[hR] at hrg
 (try (simp -implicitDefEqProofs only[go_sem,AM,AF,AI,AG,h6,h7,AL,hwk,hlen,Bi,hrl]));repeat' first|(with_reducible first|exact tI|refine aI ?_ ?_|intro _)|((first|with_reducible refine AW ?_ ?_<;>intro _|(with_reducible refine isCall ?_);first|refine AD c1 ?_|refine AD c2 ?_|refine AD c3 ?_|refine AD c4 ?_|refine AD c5 ?_|refine AD c6 ?_|refine AD c7 ?_|refine AD cT ?_)<;>try (simp -implicitDefEqProofs only[go_sem,AM,AF,AI,AG,h6,h7,AL,hwk,hlen,Bi,hrl]))|simp (disch:=omega) only[Au]|((with_reducible refine A6 ?_);refine⟨(_,_,_),rfl,?_,?_⟩)|((with_reducible refine BN ?_);refine⟨(_,_),rfl,?_,?_⟩)|((with_reducible refine BP ?_);refine⟨_,rfl,?_,?_⟩)
 all_goals first|omega|(simp<;>omega)|skip
 refine A5 (α:=Nat×(List Int)) (l0:=?l1) (m0:=?m1) (fun x=>[(13,.d (.int .i64 (x.1:Int)))]) (fun x=>[(131,.row 3 1 false (CT x.2))]) (fun x=>x.1<=ks.length/\x.2=LH a es f ks x.1) (fun x=>ks.length-x.1) (0,[f.at']) ?h01 ?he1 ?he21 ?hI1 ?step1
 case h01=>(simp -implicitDefEqProofs only[go_sem];rfl)
 case he1=>rfl
 case he21=>rfl
 case' step1=>(rintro⟨i,P⟩ hI;try dsimp only at hI)
 case' hI1=>try dsimp only
 ·exact⟨Nat.zero_le _,(ZV a es f ks).symm⟩
 ·obtain⟨i1,i2⟩:=hI
  change P=LH a es f ks i at i2
  have hpl:P.length=i+1:=by rw[i2,QK]
  by_cases hi:i<ks.length
  ·have hi':(i:Int)<(ks.length:Int):=by omega
   have wi:IntKind.i64.wrap ((i:Int)+1)=((i+1:Nat):Int):=by rw[Aw _ (by omega)];omega
   have hri:i<R.length:=by omega
   have hx:=hrg i hi
   have hsn:=Tn a es f ks i
   obtain⟨x,hxx⟩:∃x,FQ a es f ks (i+1)=x:=⟨_,rfl⟩
   rw[hxx] at hx
   rw[hxx,←i2] at hsn
   (try (simp -implicitDefEqProofs only[go_sem,hi',hri,Bi,Dm,EE,AX,AQ,hx,wi,hrl]));repeat' first|(with_reducible first|exact tI|refine aI ?_ ?_|intro _)|((first|with_reducible refine AW ?_ ?_<;>intro _)<;>try (simp -implicitDefEqProofs only[go_sem,hi',hri,Bi,Dm,EE,AX,AQ,hx,wi,hrl]))|simp (disch:=omega) only[Au]|((with_reducible refine A6 ?_);refine⟨(_,_,_),rfl,?_,?_⟩)|((with_reducible refine BN ?_);refine⟨(_,_),rfl,?_,?_⟩)|((with_reducible refine BP ?_);refine⟨_,rfl,?_,?_⟩)
   all_goals first|omega|exact hsn|trace_state
  ·have hi':¬(i:Int)<(ks.length:Int):=by omega
   have hie:i=ks.length:=by omega
   subst hie
   (try (simp -implicitDefEqProofs only[go_sem,hi',Bi,hrl]));repeat' first|(with_reducible first|exact tI|refine aI ?_ ?_|intro _)|((first|with_reducible refine AW ?_ ?_<;>intro _)<;>try (simp -implicitDefEqProofs only[go_sem,hi',Bi,hrl]))|simp (disch:=omega) only[Au]|((with_reducible refine A6 ?_);refine⟨(_,_,_),rfl,?_,?_⟩)|((with_reducible refine BN ?_);refine⟨(_,_),rfl,?_,?_⟩)|((with_reducible refine BP ?_);refine⟨_,rfl,?_,?_⟩)
   all_goals first|omega|(simp<;>omega)|skip
   refine A5 (α:=Nat) (l0:=?l2) (m0:=?m2) (fun x=>[(14,.d (.int .i64 (x:Int)))]) (fun x=>[]) (fun x=>1<=x/\x<=ks.length+2) (fun x=>ks.length+2-x) 1 ?h02 ?he2 ?he22 ?hI2 ?step2
   case h02=>(simp -implicitDefEqProofs only[go_sem];rfl)
   case he2=>rfl
   case he22=>rfl
   case' step2=>(rintro n hI2;try dsimp only at hI2)
   case' hI2=>try dsimp only
   ·exact⟨Nat.le_refl _,by omega⟩
   ·obtain⟨n1,n2⟩:=hI2
    by_cases hn:n<=ks.length+1
    ·have hn':(n:Int)<=(P.length:Int):=by omega
     have wn:IntKind.i64.wrap ((n:Int)+1)=((n+1:Nat):Int):=by rw[Aw _ (by omega)];omega
     have wm:IntKind.i64.wrap ((n:Int)-1)=(n:Int)-1:=Aw _ (by omega)
     have htn:((n:Int)-1).toNat=n-1:=by omega
     have hln:(l.take n).length=n:=by rw[List.length_take];omega
     have hpath:=Vk g hG hv hkg s (k:=n) hn
     rw[←i2] at hpath
     have hcn:=Sc hc n
     have hokS:=(Dq hc).1
     have hpath':(Jv a s).PathP (l.take n).length (P.take n):=by rw[hln];exact hpath
     have cI:=LC (Jv a s) hokS nw (l.take n) false (P.take n) true ⟨fun _=>hpath',fun _=>rfl⟩
     have cM:=KL (Jv a s) nw (l.take n) hcn false (P.take n) hpath'
     have cW:=HC (Jv a s) nw (l.take n)
     rw[Zy,←QL] at cI cM cW
     have hfound:=fun h=>Qf hcn (by omega) hpath' h
     obtain⟨M,hM⟩:∃M,(Jv a s).misread (l.take n) (P.take n)=M:=⟨_,rfl⟩
     rw[hM] at cM
     simp only[hM] at hfound
     change M<=s.wrong->_ at hfound
     by_cases hMw:s.wrong<M
     ·(try (simp -implicitDefEqProofs only[go_sem,hn',n1,n2,AL,A3,hMw]));repeat' first|(with_reducible first|exact tI|refine aI ?_ ?_|intro _)|((first|with_reducible refine AW ?_ ?_<;>intro _|(with_reducible refine isCall ?_);first|refine AD cI ?_|refine AD cM ?_|refine AD cT ?_)<;>try (simp -implicitDefEqProofs only[go_sem,hn',n1,n2,AL,A3,hMw]))|simp (disch:=omega) only[Au]|((with_reducible refine A6 ?_);refine⟨(_,_,_),rfl,?_,?_⟩)|((with_reducible refine BN ?_);refine⟨(_,_),rfl,?_,?_⟩)|((with_reducible refine BP ?_);refine⟨_,rfl,?_,?_⟩)
      all_goals first|omega|rfl|trace_state
     obtain⟨hw2,hmem⟩:=hfound (by omega)
     have hLl:=U4 hokS (l.take n)
     obtain⟨L,hL⟩:∃L,((Jv a s).ahead (l.take n) 0).1=L:=⟨_,rfl⟩
     rw[hL] at cW hmem hLl
     rw[hw2] at cW
     have hPn:(P.take n)[(l.take n).length-1]?.getD 0=(FQ a es f ks (n-1)).at':=by
      rw[hln,List.getElem?_take,if_pos (by omega),i2]
      exact Mw (by omega)
     rw[hPn] at hmem
     have hPq:P[n-1]?.getD 0=(FQ a es f ks (n-1)).at':=by rw[i2];exact Mw (by omega)
     have hnear:=fun hh=>Vl g hti hG hv hkg (k:=n-1) (by omega) hh
     obtain⟨Q,hQ⟩:∃Q,(FQ a es f ks (n-1)).at'=Q:=⟨_,rfl⟩
     rw[hQ] at hmem hPq
     simp only[hQ] at hnear
     have hfa:=YF hmem
     have hna:=fun h1 h2=>Zd (lo:=t-a.gate) (hi:=t+a.gate) hmem h1 h2
     have htb:=I4.1 hti
     have gl:=g.l;have gg:=g.g
     have wp:IntKind.i64.wrap (t+a.gate)=t+a.gate:=Aw _ (by omega)
     have wq:IntKind.i64.wrap (t-a.gate)=t-a.gate:=Aw _ (by omega)
     have hPl:n-1<P.length:=by omega
     (try (simp -implicitDefEqProofs only[go_sem,hn',n1,n2,AL,A3,hMw]));repeat' first|(with_reducible first|exact tI|refine aI ?_ ?_|intro _)|((first|with_reducible refine AW ?_ ?_<;>intro _|(with_reducible refine isCall ?_);first|refine AD cI ?_|refine AD cM ?_|refine AD cW ?_|refine AD cT ?_)<;>try (simp -implicitDefEqProofs only[go_sem,hn',n1,n2,AL,A3,hMw]))|simp (disch:=omega) only[Au]|((with_reducible refine A6 ?_);refine⟨(_,_,_),rfl,?_,?_⟩)|((with_reducible refine BN ?_);refine⟨(_,_),rfl,?_,?_⟩)|((with_reducible refine BP ?_);refine⟨_,rfl,?_,?_⟩)
     all_goals first|omega|(simp<;>omega)|skip
     refine A5 (α:=Nat×Bool×Bool) (l0:=?l3) (m0:=?m3) (fun x=>[(19,.d (.int .i64 (x.1:Int))),(17,.d (.bool x.2.1)),(18,.d (.bool x.2.2))]) (fun x=>[]) (fun x=>x.1<=L.length/\x.2.1=(L.take x.1).any (LO Q)/\x.2.2=(L.take x.1).any (V6 (t-a.gate) (t+a.gate))) (fun x=>L.length-x.1) (0,false,false) ?h03 ?he3 ?he23 ?hI3 ?step3
     case h03=>(simp -implicitDefEqProofs only[go_sem];rfl)
     case he3=>rfl
     case he23=>rfl
     case' step3=>(rintro⟨i,fd,nr⟩ hI3;try dsimp only at hI3)
     case' hI3=>try dsimp only
     ·exact⟨Nat.zero_le _,rfl,rfl⟩
     ·obtain⟨j1,j2,j3⟩:=hI3
      change fd=(L.take i).any (LO Q) at j2
      change nr=(L.take i).any (V6 (t-a.gate) (t+a.gate)) at j3
      by_cases hj:i<L.length
      ·have hj':(i:Int)<(L.length:Int):=by omega
       have wj:IntKind.i64.wrap ((i:Int)+1)=((i+1:Nat):Int):=by rw[Aw _ (by omega)];omega
       have hs1:=Q_ hj (LO Q)
       have hs2:=Q_ hj (V6 (t-a.gate) (t+a.gate))
       rw[←j2] at hs1
       rw[←j3] at hs2
       obtain⟨q,hq⟩:∃q,L[i]?.getD default=q:=⟨_,rfl⟩
       rw[hq] at hs1 hs2
       clear j2 j3 hnear hfa hna hmem hpath hpath' cI cM cW cT
       have hfin:∀{b:Bool},b=((L.take (i+1)).any (LO Q))->b=((L.take (i+1)).any (LO Q)):=fun h=>h
       cases fd<;>cases nr
       all_goals ((try (simp -implicitDefEqProofs only[go_sem,hj',hj,AL,Ag,A3,Aj,hq,hPl,htn,hPq,wj,wm,wp,wq]));repeat' first|(with_reducible first|exact tI|refine aI ?_ ?_|intro _)|((first|with_reducible refine AW ?_ ?_<;>intro _)<;>try (simp -implicitDefEqProofs only[go_sem,hj',hj,AL,Ag,A3,Aj,hq,hPl,htn,hPq,wj,wm,wp,wq]))|simp (disch:=omega) only[Au]|((with_reducible refine A6 ?_);refine⟨(_,_,_),rfl,?_,?_⟩)|((with_reducible refine BN ?_);refine⟨(_,_),rfl,?_,?_⟩)|((with_reducible refine BP ?_);refine⟨_,rfl,?_,?_⟩))
       all_goals first|omega|(rw[hs1];first|(simp;done)|(rw[aq (by omega) (by omega)];simp;done)|(rw[au (by omega)];simp;done)|(rw[ar (by omega)];simp;done))|(rw[hs2];first|(simp;done)|(rw[bX (by omega) (by omega)];simp;done)|(rw[ba (by omega)];simp;done)|(rw[bZ (by omega)];simp;done))|trace_state
      ·have hj':¬(i:Int)<(L.length:Int):=by omega
       have hje:i=L.length:=by omega
       subst hje
       rw[List.take_length,hfa] at j2
       rw[List.take_length] at j3
       by_cases hnn:n0<(n:Int)
       ·obtain⟨k1,k2⟩:=hnear (by omega)
        rw[hna k1 k2] at j3
        subst j2 j3
        (try (simp -implicitDefEqProofs only[go_sem,hj',AL,wn]));repeat' first|(with_reducible first|exact tI|refine aI ?_ ?_|intro _)|((first|with_reducible refine AW ?_ ?_<;>intro _)<;>try (simp -implicitDefEqProofs only[go_sem,hj',AL,wn]))|simp (disch:=omega) only[Au]|((with_reducible refine A6 ?_);refine⟨(_,_,_),rfl,?_,?_⟩)|((with_reducible refine BN ?_);refine⟨(_,_),rfl,?_,?_⟩)|((with_reducible refine BP ?_);refine⟨_,rfl,?_,?_⟩)
        all_goals first|omega|rfl|trace_state
       ·subst j2
        (try (simp -implicitDefEqProofs only[go_sem,hj',AL,hnn,wn]));repeat' first|(with_reducible first|exact tI|refine aI ?_ ?_|intro _)|((first|with_reducible refine AW ?_ ?_<;>intro _)<;>try (simp -implicitDefEqProofs only[go_sem,hj',AL,hnn,wn]))|simp (disch:=omega) only[Au]|((with_reducible refine A6 ?_);refine⟨(_,_,_),rfl,?_,?_⟩)|((with_reducible refine BN ?_);refine⟨(_,_),rfl,?_,?_⟩)|((with_reducible refine BP ?_);refine⟨_,rfl,?_,?_⟩)
        all_goals first|omega|rfl|trace_state
    ·have hn':¬(n:Int)<=(P.length:Int):=by omega
     (try (simp -implicitDefEqProofs only[go_sem,hn']));repeat' first|(with_reducible first|exact tI|refine aI ?_ ?_|intro _)|((first|with_reducible refine AW ?_ ?_<;>intro _|(with_reducible refine isCall ?_);first|refine AD cT ?_)<;>try (simp -implicitDefEqProofs only[go_sem,hn']))|simp (disch:=omega) only[Au]|((with_reducible refine A6 ?_);refine⟨(_,_,_),rfl,?_,?_⟩)|((with_reducible refine BN ?_);refine⟨(_,_),rfl,?_,?_⟩)|((with_reducible refine BP ?_);refine⟨_,rfl,?_,?_⟩)
     all_goals first|omega|rfl|trace_state
end Go.Pw
end
section
namespace Go.Pw
def aB:Ty:=.str [.int .i64,.int .i64,.int .i64,.int .i64,.int .i64,.int .i64]
def Zx:Ty:=.str [.int .i64,.str [.int .i64,.int .i64],.list (.int .i64),.list (.str [.int .i64,.int .i64])]
theorem TH {x:D}(h:Ld aB x):∃a,x=Ek a:=by
 obtain⟨h,hx⟩:=h
 obtain⟨_,_,e1,h1,h⟩:=Bm h
 obtain⟨_,_,e2,h2,h⟩:=Bm h
 obtain⟨_,_,e3,h3,h⟩:=Bm h
 obtain⟨_,_,e4,h4,h⟩:=Bm h
 obtain⟨_,_,e5,h5,h⟩:=Bm h
 obtain⟨_,_,e6,h6,h⟩:=Bm h
 obtain rfl:=It h
 obtain⟨n1,rfl⟩:=CQ h1
 obtain⟨n2,rfl⟩:=CQ h2
 obtain⟨n3,rfl⟩:=CQ h3
 obtain⟨n4,rfl⟩:=CQ h4
 obtain⟨n5,rfl⟩:=CQ h5
 obtain⟨n6,rfl⟩:=CQ h6
 subst e6 e5 e4 e3 e2
 rw[e1] at hx
 exact⟨⟨n1,n2,n3,n4,n5,n6⟩,hx⟩
theorem N4 {cs:List D}(h:Ch (.str [.int .i64,.int .i64]) cs):∃x y,cs=[.int .i64 x,.int .i64 y]:=by
 obtain⟨_,_,e1,h1,h⟩:=Bm h
 obtain⟨_,_,e2,h2,h⟩:=Bm h
 obtain rfl:=It h
 obtain⟨n1,rfl⟩:=CQ h1
 obtain⟨n2,rfl⟩:=CQ h2
 subst e2
 exact⟨n1,n2,e1⟩
theorem TG {x:D}(h:Ld Zx x):∃(t:Int) (f:BT) (nk:Bool) (ks:List Int) (nw:Bool) (l:List Al),x=.agg [.int .i64 t,.int .i64 f.at',.int .i64 f.sp,.list nk (CT ks),.list nw (BO l)]:=by
 obtain⟨h,hx⟩:=h
 obtain⟨_,_,e1,h1,h⟩:=Bm h
 obtain⟨_,_,e2,h2,h⟩:=Bm h
 obtain⟨_,_,e3,h3,h⟩:=Bm h
 obtain⟨_,_,e4,h4,h⟩:=Bm h
 obtain rfl:=It h
 obtain⟨t,rfl⟩:=CQ h1
 obtain⟨u,v,rfl⟩:=N4 h2
 obtain⟨nk,ks,rfl⟩:=Me h3
 obtain⟨nw,l,rfl⟩:=Md KU (fun cs h=>by obtain⟨a,b,rfl⟩:=N4 h;exact⟨(a,b),rfl⟩) h4
 subst e4 e3 e2
 rw[e1] at hx
 exact⟨t,⟨u,v⟩,nk,ks,nw,l,hx⟩
end Go.Pw
end

/- A part of the proof. -/
import Derived.Test.YtpcpcjbbdgmohaaGreatPgQsF
set_option linter.all false
open Go Go.Pw Go.Proofs
namespace Go.Pw
set_option maxRecDepth 100000
set_option maxHeartbeats 3200000
theorem bZ:BC E0.P EL=true:=by kernel_rfl
def QL (q:GQ):List (List D):=(Fb q q.rq.length []).map fun o=>[bQ q o]
theorem bP (q:GQ):Ky (QL q) 0 (fun o=>[bQ q o]) (Fb q q.rq.length []):=fun i x hx=>by
 unfold QL;rw[Nat.zero_add,List.getElem?_map,hx];rfl
theorem Yo {q:GQ}:∀(k:Nat) (ord:List Int),aP q ord->ord.length+k=q.rq.length->∀x,x∈Fb q k ord->x.length=q.rq.length/\aP q x
 |0,ord,h,hl,x,hx=>by
  rw[Fb] at hx
  have:=List.mem_singleton.1 hx
  subst this
  exact⟨by omega,h⟩
 |k+1,ord,h,hl,x,hx=>by
  rw[Fb,List.mem_flatMap] at hx
  obtain⟨m,hm,hx⟩:=hx
  rw[List.mem_range] at hm
  split at hx
  ·exact Yo k _ (TR h hm) (by rw[List.length_append];simp;omega) x hx
  ·cases hx
theorem Yi (o g:Nat) (B:AV) (f:Nat) (cs:List AV):R1 o g B (.fn f cs)=.fn f (cs.map (ZF o g B)):=rfl
theorem bx (o g o' g':Nat) (B:AV):ZF o g B (.ptr o' g' 0)=if o'=o/\g'=g/\0=0 then B else .ptr o' g' 0:=rfl
theorem bz (o g:Nat) (B:AV) (d:D):ZF o g B (.d d)=.d d:=rfl
theorem b7 (o g:Nat) (B:AV) (s cs f):ZF o g B (.ablk s cs f)=.ablk s cs f:=rfl
def lT (q:GQ):List AV:=[.d (.int .i64 q.d.heads),.d (.int .i64 q.d.turn),.d (.list q.d.zn (FJ q.d.zones)),.d (.int .i64 q.d.hskew),.d (.int .i64 q.d.cskew),.d (.int .i64 q.d.hlo),.d (.int .i64 q.d.hhi),.d (.int .i64 q.d.clo),.d (.int .i64 q.d.chi),.d (.int .i64 q.cyl),.d (.int .i64 q.pas),.d (.list q.nls (FJ q.sk)),.d (.list q.nlr (M4 q.rq))]
theorem HZ (q:GQ):lT q=[.d (.int .i64 q.d.heads),.d (.int .i64 q.d.turn),.d (.list q.d.zn (FJ q.d.zones)),.d (.int .i64 q.d.hskew),.d (.int .i64 q.d.cskew),.d (.int .i64 q.d.hlo),.d (.int .i64 q.d.hhi),.d (.int .i64 q.d.clo),.d (.int .i64 q.d.chi),.d (.int .i64 q.cyl),.d (.int .i64 q.pas),.d (.list q.nls (FJ q.sk)),.d (.list q.nlr (M4 q.rq))]:=rfl
attribute [local congr] DX B3 B4 Bc DZ Bj Bl Bk Bb BN BF A6 Be BG Bg CD CE CF Cd Ce B9 Bf BL Bi BM B8 Cf BK CB CC B_ B6 B7 B2 DY B5 Bd BI BH BJ Bh CA
attribute [local irreducible] IntKind.wrap CK Option.getD and or
theorem WU (q:GQ) (g:q.Good) (h4:q.rq.length<=4) (hz:q.d.size<=200):Ru E0 EL [Hy q] [] (QL q):=by
 have ih:=Nx q g h4 hz (QL q) q.rq.length 4 true [] h4 (by simp) (fun i h=>absurd h (Nat.not_lt_zero i)) (.inl ⟨rfl,rfl⟩) 0 (bP q)
 have hl:(QL q).length=(Fb q q.rq.length []).length:=by simp[QL]
 have hon:=RC q 4
 obtain⟨els,hels⟩:∃els,QL q=els:=⟨_,rfl⟩
 rw[hels] at ih hl ⊢
 refine I4 IZ Aq iY (by simp) fun hwf _=>?_
 rw[Dv];unfold D3
 (try (simp -implicitDefEqProofs only[go_sem,Ai,AN,Wy,Wz,Yi,bx,bz,b7]));repeat' first|(with_reducible first|exact tI|refine aI ?_ ?_|intro _)|((first|with_reducible refine AU ?_ ?_<;>intro _)<;>try (simp -implicitDefEqProofs only[go_sem,Ai,AN,Wy,Wz,Yi,bx,bz,b7]))|simp (disch:=omega) only[Al]
 all_goals first|omega|rfl|skip
 refine OH O3 900001 els 0 _ rfl (by simp[AV.onlyH,AV.onlyH.allH]) ih fun n1 st1 r hp=>?_
 rcases hp with⟨rfl,rfl,rfl⟩|⟨rfl,rfl⟩
 ·refine⟨rfl,?_⟩
  have hn:0+(Fb q q.rq.length []).length=els.length:=by omega
  (try (simp -implicitDefEqProofs only[go_sem,KE,FB,HV,hn]));repeat' first|(with_reducible first|exact tI|refine aI ?_ ?_|intro _)|((first|with_reducible refine AU ?_ ?_<;>intro _)<;>try (simp -implicitDefEqProofs only[go_sem,KE,FB,HV,hn]))|simp (disch:=omega) only[Al]
  all_goals first|omega|rfl|exact .inr True.intro|trace_state
 ·refine⟨rfl,?_⟩
  (try (simp -implicitDefEqProofs only[go_sem,KE,FB,HV]));repeat' first|(with_reducible first|exact tI|refine aI ?_ ?_|intro _)|((first|with_reducible refine AU ?_ ?_<;>intro _)<;>try (simp -implicitDefEqProofs only[go_sem,KE,FB,HV]))|simp (disch:=omega) only[Al]
  all_goals first|omega|rfl|exact .inl True.intro|trace_state
theorem Oa (q:GQ) (b1 b2:Bool) (o e:List Int) (n:Nat) (hn:n<q.rq.length) (he:n<e.length):Ca E0 GI [Hy q,.agg [.list b1 (Bs o),.list b2 (Bs e)],.int .i64 (n:Int)] (.bool (RG q e n)):=by
 refine AW JE Aq (by simp) fun hwf=>?_
 have hn':(n:Int)<(q.rq.length:Int):=by omega
 have he':(n:Int)<(e.length:Int):=by omega
 rw[AZ];unfold Fh RG
 obtain⟨r,hr⟩:∃r,q.rq[n]?.getD default=r:=⟨_,rfl⟩
 obtain⟨v,hv⟩:∃v,e[n]?.getD 0=v:=⟨_,rfl⟩
 rw[hr,hv]
 by_cases h:0<=r.due
 ·rw[decide_eq_true h,Bool.true_and]
  (try (simp -implicitDefEqProofs only[go_sem,Ai,AN,Av,Az,AL,Bn,Bo,hr,hv,hn,he,hn',he',h]));repeat' first|(with_reducible first|exact tI|refine aI ?_ ?_|intro _)|((first|with_reducible refine AU ?_ ?_<;>intro _)<;>try (simp -implicitDefEqProofs only[go_sem,Ai,AN,Av,Az,AL,Bn,Bo,hr,hv,hn,he,hn',he',h]))|simp (disch:=omega) only[Al]
  all_goals first|omega|rfl|(simp_all;done)|trace_state
 ·rw[decide_eq_false h,Bool.false_and]
  (try (simp -implicitDefEqProofs only[go_sem,Ai,AN,Av,Az,AL,Bn,Bo,hr,hv,hn,he,hn',he',h]));repeat' first|(with_reducible first|exact tI|refine aI ?_ ?_|intro _)|((first|with_reducible refine AU ?_ ?_<;>intro _)<;>try (simp -implicitDefEqProofs only[go_sem,Ai,AN,Av,Az,AL,Bn,Bo,hr,hv,hn,he,hn',he',h]))|simp (disch:=omega) only[Al]
  all_goals first|omega|rfl|trace_state
theorem Qw (q:GQ) (hl:q.rq.length<=6) (b1 b2:Bool) (o e:List Int) (he:e.length=q.rq.length) (ho:aP q o) (hol:o.length<=6) :
  Ca E0 HL [Hy q,.agg [.list b1 (Bs o),.list b2 (Bs e)]] (.tup [.int .i64 (NZ q e q.rq.length),.int .i64 (bI o e)]):=by
 refine AW Kn Aq (by simp) fun hwf=>?_
 rw[AZ];unfold GT
 (try (simp -implicitDefEqProofs only[go_sem,Ai,AN,AL]));repeat' first|(with_reducible first|exact tI|refine aI ?_ ?_|intro _)|((first|with_reducible refine AU ?_ ?_<;>intro _)<;>try (simp -implicitDefEqProofs only[go_sem,Ai,AN,AL]))|simp (disch:=omega) only[Al]|((with_reducible refine A0 ?_);refine⟨(_,_),rfl,?_,?_⟩)
 all_goals first|omega|(simp<;>omega)|skip
 refine Ao (α:=Nat×Int) (l0:=?l2) (m0:=?m2) (fun x=>[(12,.d (.int .i64 (x.1:Int))),(4,.d (.int .i64 x.2))]) (fun x=>[]) (fun x=>x.1<=q.rq.length/\x.2=NZ q e x.1) (fun x=>q.rq.length-x.1) (0,0) ?h02 ?he2 ?he22 ?hI2 ?step2
 case h02=>(simp -implicitDefEqProofs only[go_sem,AN,AL];rfl)
 case he2=>rfl
 case he22=>rfl
 case' step2=>(rintro⟨i,m⟩ hI;try dsimp only at hI)
 case' hI2=>try dsimp only
 ·exact⟨by omega,rfl⟩
 ·obtain⟨h1,h2⟩:=hI
  have hbd:=dw q e i
  by_cases hi:i<q.rq.length
  ·have hi':(i:Int)<(q.rq.length:Int):=by omega
   have wi:IntKind.i64.wrap ((i:Int)+1)=((i+1:Nat):Int):=by rw[Ad _ (by omega)];omega
   have wm:IntKind.i64.wrap (m+1)=m+1:=Ad _ (by omega)
   have c1:=Oa q b1 b2 o e i hi (by omega)
   have hs:=gk q e i
   rw[Ai,AN] at c1
   cases hb:RG q e i with
   |false =>
    rw[hb] at c1 hs
    rw[if_neg (by simp),←h2] at hs
    (try (simp -implicitDefEqProofs only[go_sem,AN,AL,hi',wi,wm]));repeat' first|(with_reducible first|exact tI|refine aI ?_ ?_|intro _)|((first|with_reducible refine AU ?_ ?_<;>intro _|(with_reducible refine isCall ?_);first|refine AF c1 ?_)<;>try (simp -implicitDefEqProofs only[go_sem,AN,AL,hi',wi,wm]))|simp (disch:=omega) only[Al]|((with_reducible refine A0 ?_);refine⟨(_,_),rfl,?_,?_⟩)
    all_goals first|omega|rfl|exact .inl True.intro|exact(by rw[hs];omega)|trace_state
   |true =>
    rw[hb] at c1 hs
    rw[if_pos rfl,←h2] at hs
    (try (simp -implicitDefEqProofs only[go_sem,AN,AL,hi',wi,wm]));repeat' first|(with_reducible first|exact tI|refine aI ?_ ?_|intro _)|((first|with_reducible refine AU ?_ ?_<;>intro _|(with_reducible refine isCall ?_);first|refine AF c1 ?_)<;>try (simp -implicitDefEqProofs only[go_sem,AN,AL,hi',wi,wm]))|simp (disch:=omega) only[Al]|((with_reducible refine A0 ?_);refine⟨(_,_),rfl,?_,?_⟩)
    all_goals first|omega|rfl|exact .inl True.intro|exact hs.symm|trace_state
  ·have hi':¬(i:Int)<(q.rq.length:Int):=by omega
   have hie:i=q.rq.length:=by omega
   rw[hie] at h2
   by_cases hz:o.length=0
   ·have hz':¬(0:Int)<(o.length:Int):=by omega
    have hev:bI o e=0:=by unfold bI;rw[if_pos hz]
    rw[hev]
    (try (simp -implicitDefEqProofs only[go_sem,AN,AL,hi',hz',h2]));repeat' first|(with_reducible first|exact tI|refine aI ?_ ?_|intro _)|((first|with_reducible refine AU ?_ ?_<;>intro _)<;>try (simp -implicitDefEqProofs only[go_sem,AN,AL,hi',hz',h2]))|simp (disch:=omega) only[Al]|((with_reducible refine A0 ?_);refine⟨(_,_),rfl,?_,?_⟩)
    all_goals first|omega|rfl|exact .inl True.intro|trace_state
   ·have hz':(0:Int)<(o.length:Int):=by omega
    have wk:IntKind.i64.wrap ((o.length:Int)-1)=((o.length-1:Nat):Int):=by rw[Ad _ (by omega)];omega
    have hk:o.length-1<o.length:=by omega
    have hk':((o.length-1:Nat):Int)<(o.length:Int):=by omega
    have hx:=ho (o.length-1) hk
    have hev:bI o e=e[(o[o.length-1]?.getD 0).toNat]?.getD 0:=by unfold bI;rw[if_neg hz]
    rw[hev]
    obtain⟨x0,hx0⟩:∃x0,o[o.length-1]?.getD 0=x0:=⟨_,rfl⟩
    rw[hx0] at hx ⊢
    have k1:x0<(e.length:Int):=by omega
    have k2:x0.toNat<e.length:=by omega
    (try (simp -implicitDefEqProofs only[go_sem,AN,AL,hi',hz',h2,wk,hk,hk',hx0,k1,k2]));repeat' first|(with_reducible first|exact tI|refine aI ?_ ?_|intro _)|((first|with_reducible refine AU ?_ ?_<;>intro _)<;>try (simp -implicitDefEqProofs only[go_sem,AN,AL,hi',hz',h2,wk,hk,hk',hx0,k1,k2]))|simp (disch:=omega) only[Al]|((with_reducible refine A0 ?_);refine⟨(_,_),rfl,?_,?_⟩)
    all_goals first|omega|rfl|exact .inl True.intro|trace_state
theorem Qy (q:GQ) (g:q.Good) (h4:q.rq.length<=4) (hz:q.d.size<=200) {b:Bool}{o:List Int}{l e:Int}(hb:N1 q (Fb q q.rq.length []) (Fb q q.rq.length []).length=((b,o),(l,e))) :
  Ca E0 HO [Hy q] (.tup [.list b (Bs o),.int .i64 l,.int .i64 e]):=by
 refine AW Kq Aq (by simp) fun hwf=>?_
 have cS:=WU q g h4 hz
 have w0:IntKind.i64.wrap ((q.rq.length:Int)+1)=(q.rq.length:Int)+1:=Ad _ (by omega)
 have hlen:(QL q).length=(Fb q q.rq.length []).length:=by simp[QL]
 have hok:=Yo (q:=q) q.rq.length [] (fun i h=>absurd h (Nat.not_lt_zero i)) (by simp)
 have hget:∀(n:Nat) (ds:List D),(QL q)[n]?=some ds->∃x0,(Fb q q.rq.length [])[n]?=some x0/\ds=[bQ q x0]:=fun n ds h=>by
  unfold QL at h
  rw[List.getElem?_map,Option.map_eq_some_iff] at h
  obtain⟨x0,h1,h2⟩:=h
  exact⟨x0,h1,h2.symm⟩
 obtain⟨L,hL⟩:∃L,Fb q q.rq.length []=L:=⟨_,rfl⟩
 obtain⟨els,hels⟩:∃els,QL q=els:=⟨_,rfl⟩
 rw[hL] at hb hlen hok
 simp only[hL,hels] at hget
 rw[hels] at cS hlen
 rw[Ai,AN] at cS
 rw[AZ];unfold GW
 (try (simp -implicitDefEqProofs only[go_sem,Ai,AN,AL,w0]));repeat' first|(with_reducible first|exact tI|refine aI ?_ ?_|intro _)|((first|with_reducible refine AU ?_ ?_<;>intro _)<;>try (simp -implicitDefEqProofs only[go_sem,Ai,AN,AL,w0]))|simp (disch:=omega) only[Al]|((with_reducible refine TN ?_);refine⟨(_,_,_,_),rfl,?_⟩)
 refine LJ (α:=Bool×((List Int))×Int×Int) (so:=HU) (l0:=?l1) (m0:=?m1) (fun x=>[(5000001,.cells (lT q)),(5000002,.cells [.d (.list x.1 (Bs x.2.1))]),(5000003,.cells [.d (.int .i64 x.2.2.1)]),(5000004,.cells [.d (.int .i64 x.2.2.2)])]) (fun n x=>((x.1,x.2.1),(x.2.2.1,x.2.2.2))=N1 q L n) (fun e x=>False) (true,[],((q.rq.length:Int)+1),0) (cS) bZ ?h01 ?he1 (by simp[PC.noR]) ?hw1 ?hI1 ?step1 ?hend1 ?hjump1
 case h01=>(simp -implicitDefEqProofs only[go_sem];(try simp only[or_true,true_or,true_and]);first|rfl|(refine⟨.inl ⟨_,rfl,rfl⟩,?_⟩<;>rfl)|exact⟨.inl ⟨⟨_,rfl,rfl⟩,rfl⟩,rfl⟩|exact⟨.inr ⟨rfl,rfl⟩,rfl⟩)
 case he1=>rfl
 case hw1=>simp -implicitDefEqProofs only[go_sem]
 case' hjump1=>(rintro e ⟨b1,o1,l1,e1⟩ hI;try dsimp only at hI)
 case' hend1=>(rintro⟨b1,o1,l1,e1⟩ hI;try dsimp only at hI)
 case' step1=>(rintro n ⟨b1,o1,l1,e1⟩ ds hds hI;try dsimp only at hI)
 case' hI1=>try dsimp only
 ·rfl
 ·obtain⟨x0,h1,rfl⟩:=hget n ds hds
  have hx:=hok x0 (List.mem_of_getElem? h1)
  have c1:=Qw q g.rl false false x0 (oE q x0) (by unfold oE;rw[IQ]) hx.2 (by omega)
  have hg:L[n]?.getD []=x0:=by rw[h1,Option.getD_some]
  have hbs:N1 q L (n+1)=if eA q l1 e1 x0 then ((false,x0),(TJ q x0,ep q x0)) else ((b1,o1),(l1,e1)):=by rw[N1,hg,←hI]
  change Ca E0 _ _ (.tup [.int .i64 (TJ q x0),.int .i64 (ep q x0)]) at c1
  rw[Y']
  change Ca E0 _ [_,.agg [.list false (Bs x0),.list false (Bs (q.outN true x0 x0.length))]] _ at c1
  rw[Ai,AN] at c1
  obtain⟨u,hu⟩:∃u,TJ q x0=u:=⟨_,rfl⟩
  obtain⟨v,hv⟩:∃v,ep q x0=v:=⟨_,rfl⟩
  unfold eA at hbs
  rw[hu,hv] at c1 hbs
  by_cases k1:u<l1
  ·rw[decide_eq_true k1,Bool.true_or,if_pos rfl] at hbs
   (try (simp -implicitDefEqProofs only[go_sem,HZ,k1]));repeat' first|(with_reducible first|exact tI|refine aI ?_ ?_|intro _)|((first|with_reducible refine AU ?_ ?_<;>intro _|(with_reducible refine isCall ?_);first|refine AF c1 ?_)<;>try (simp -implicitDefEqProofs only[go_sem,HZ,k1]))|simp (disch:=omega) only[Al]|((with_reducible refine TN ?_);refine⟨(_,_,_,_),rfl,?_⟩)
   all_goals first|omega|rfl|exact hbs.symm|trace_state
  ·rw[decide_eq_false k1,Bool.false_or] at hbs
   by_cases k2:u=l1
   ·rw[decide_eq_true k2,Bool.true_and] at hbs
    have k2':(u=l1)=True:=eq_true k2
    by_cases k3:v<e1
    ·rw[decide_eq_true k3,if_pos rfl] at hbs
     (try (simp -implicitDefEqProofs only[go_sem,HZ,k1,k2',k3]));repeat' first|(with_reducible first|exact tI|refine aI ?_ ?_|intro _)|((first|with_reducible refine AU ?_ ?_<;>intro _|(with_reducible refine isCall ?_);first|refine AF c1 ?_)<;>try (simp -implicitDefEqProofs only[go_sem,HZ,k1,k2',k3]))|simp (disch:=omega) only[Al]|((with_reducible refine TN ?_);refine⟨(_,_,_,_),rfl,?_⟩)
     all_goals first|omega|rfl|exact hbs.symm|trace_state
    ·rw[decide_eq_false k3,if_neg (by simp)] at hbs
     (try (simp -implicitDefEqProofs only[go_sem,HZ,k1,k2',k3]));repeat' first|(with_reducible first|exact tI|refine aI ?_ ?_|intro _)|((first|with_reducible refine AU ?_ ?_<;>intro _|(with_reducible refine isCall ?_);first|refine AF c1 ?_)<;>try (simp -implicitDefEqProofs only[go_sem,HZ,k1,k2',k3]))|simp (disch:=omega) only[Al]|((with_reducible refine TN ?_);refine⟨(_,_,_,_),rfl,?_⟩)
     all_goals first|omega|rfl|exact hbs.symm|trace_state
   ·rw[decide_eq_false k2,Bool.false_and,if_neg (by simp)] at hbs
    (try (simp -implicitDefEqProofs only[go_sem,HZ,k1,k2]));repeat' first|(with_reducible first|exact tI|refine aI ?_ ?_|intro _)|((first|with_reducible refine AU ?_ ?_<;>intro _|(with_reducible refine isCall ?_);first|refine AF c1 ?_)<;>try (simp -implicitDefEqProofs only[go_sem,HZ,k1,k2]))|simp (disch:=omega) only[Al]|((with_reducible refine TN ?_);refine⟨(_,_,_,_),rfl,?_⟩)
    all_goals first|omega|rfl|exact hbs.symm|trace_state
 ·rw[hlen,hb] at hI
  obtain⟨⟨rfl,rfl⟩,rfl,rfl⟩:(b1=b/\o1=o)/\l1=l/\e1=e:=by simpa using hI
  (try (simp -implicitDefEqProofs only[go_sem]));repeat' first|(with_reducible first|exact tI|refine aI ?_ ?_|intro _)|((first|with_reducible refine AU ?_ ?_<;>intro _)<;>try (simp -implicitDefEqProofs only[go_sem]))|simp (disch:=omega) only[Al]|((with_reducible refine TN ?_);refine⟨(_,_,_,_),rfl,?_⟩)
  all_goals first|omega|rfl|exact .inl True.intro|trace_state
theorem P3 (q:GQ) (g:q.Good) (h4:q.rq.length<=4) (hz:q.d.size<=200) {b:Bool}{o:List Int}{l e:Int}(hb:N1 q (Fb q q.rq.length []) (Fb q q.rq.length []).length=((b,o),(l,e))) :
  Ca E0 MF [Hy q] (.tup [.list b (Bs o),.int .i64 l,.int .i64 e,.int .i64 0]):=by
 refine AW QH Aq (by simp) fun hwf=>?_
 have c1:=JZ q g
 have c2:=Qy q g h4 hz hb
 rw[Ai,AN] at c1 c2
 rw[AZ];unfold KY
 (try (simp -implicitDefEqProofs only[go_sem,Ai,AN]));repeat' first|(with_reducible first|exact tI|refine aI ?_ ?_|intro _)|((first|with_reducible refine AU ?_ ?_<;>intro _|(with_reducible refine isCall ?_);first|refine AF c1 ?_|refine AF c2 ?_)<;>try (simp -implicitDefEqProofs only[go_sem,Ai,AN]))|simp (disch:=omega) only[Al]
 all_goals first|omega|rfl|exact .inl True.intro|trace_state
end Go.Pw

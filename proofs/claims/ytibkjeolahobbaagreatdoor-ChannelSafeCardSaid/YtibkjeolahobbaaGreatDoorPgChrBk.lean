/- A part of the proof. -/
import Derived.Test.YtibkjeolahobbaaGreatDoorPgChrEnc
import Derived.Test.YtibkjeolahobbaaGreatDoorChPC
import Derived.Test.YtibkjeolahobbaaGreatDoorPgChcJ
import Derived.Test.YtibkjeolahobbaaGreatDoorPgChcA
import Derived.Test.YtibkjeolahobbaaGreatDoorChcSpec2
set_option linter.all false
section
namespace Go.Pw
set_option linter.unusedSimpArgs false
set_option linter.unusedVariables false
theorem S4 {q k j:Nat} (h:k < q):(j * q+k) / q=j:=by
 rw [Nat.mul_comm,Nat.mul_add_div (by omega),Nat.div_eq_of_lt h,Nat.add_zero]
theorem P' {q k j:Nat} (h:k < q):(j * q+k) % q=k:=by
 rw [Nat.mul_comm,Nat.mul_add_mod,Nat.mod_eq_of_lt h]
theorem QA {q k j m:Nat} (h:k < q) (hj:j < m):j * q+k < m * q:=by
 have:=Nat.mul_le_mul_right q (show j+1≤m by omega)
 rw [Nat.add_mul,Nat.one_mul] at this
 omega
theorem Xy (q i:Nat):i / q * q+i % q=i:=Nat.div_add_mod' i q
def CH (m q k:Nat) (b:List F):List F:=(List.range m).map fun j=>b[j * q+k]?.getD 0
theorem CN (m q k:Nat) (b:List F):(CH m q k b).length=m:=by simp [CH]
theorem Nt {m q k:Nat} {b:List F} (j:Nat) (h:j < m):(CH m q k b)[j]?.getD 0=b[j * q+k]?.getD 0:=by simp [CH,h]
def HT (m q:Nat) (W:Nat→List F):List F:=(List.range (m * q)).map fun i=>(W (i % q))[i / q]?.getD 0
theorem HE (m q:Nat) (W:Nat→List F):(HT m q W).length=m * q:=by simp [HT]
theorem NS {m q:Nat} {W:Nat→List F} (i:Nat) (h:i < m * q):(HT m q W)[i]?.getD 0=(W (i % q))[i / q]?.getD 0:=by simp [HT,h]
theorem QT {m q:Nat} (hq:0 < q) {W V:Nat→List F} (h:∀k,k < q→W k=V k):HT m q W=HT m q V:=by
 unfold HT
 apply List.map_congr_left
 intro i hi
 rw [h _ (Nat.mod_lt _ hq)]
theorem VG {m q:Nat} (hq:0 < q) {b:List F} (hb:b.length=m * q):HT m q (fun k=>CH m q k b)=b:=by
 apply dN
 ·rw [HE,hb]
 ·intro i hi
  rw [HE] at hi
  show (HT m q fun k=>CH m q k b)[i]?.getD 0=b[i]?.getD 0
  rw [NS i hi,Nt _ (Nat.div_lt_of_lt_mul (by rw [Nat.mul_comm];exact hi)),Xy]
def OU (q k:Nat) (ms:List Nat):List Nat:=(ms.filter fun i=>i % q == k).map (· / q)
theorem Si {m q k:Nat} (hq:0 < q) {ms:List Nat} (h:XJ (m * q) ms):XJ m (OU q k ms):=by
 refine⟨?_,fun j hj=>?_⟩
 ·unfold OU
  rw [List.pairwise_map]
  refine List.Pairwise.imp_of_mem (fun {a b} ha hb hab=>?_) (h.asc.filter _)
  simp only [List.mem_filter,beq_iff_eq] at ha hb
  have e1:=Xy q a
  have e2:=Xy q b
  rcases Nat.lt_or_ge (a / q) (b / q) with h1|h1
  ·exact h1
  ·have:=Nat.mul_le_mul_right q h1
   omega
 ·simp only [OU,List.mem_map,List.mem_filter,beq_iff_eq] at hj
  obtain⟨i,⟨hi,_⟩,rfl⟩:=hj
  exact Nat.div_lt_of_lt_mul (by rw [Nat.mul_comm];exact h.lt i hi)
theorem gF {q k j:Nat} (hk:k < q) {ms:List Nat}:j∈OU q k ms↔j * q+k∈ms:=by
 simp only [OU,List.mem_map,List.mem_filter,beq_iff_eq]
 constructor
 ·rintro⟨i,⟨h1,h2⟩,rfl⟩
  have:=Xy q i
  rw [h2] at this
  rwa [this]
 ·intro h
  exact⟨j * q+k,⟨h,P' hk⟩,S4 hk⟩
theorem UX (q k x:Nat) (ms:List Nat):OU q k (ms++[x])=if x % q=k then OU q k ms++[x / q] else OU q k ms:=by
 unfold OU
 rw [List.filter_append,List.map_append]
 by_cases h:x % q=k
 ·rw [if_pos h];simp [h]
 ·rw [if_neg h];simp [h]
def RM (L P q:Nat) (d:List F):List F:=HT L q fun k=>GD P (CH (L - P) q k d)
theorem SL (L P q:Nat) (d:List F):(RM L P q d).length=L * q:=HE ..
noncomputable def Xs (L P q:Nat) (b:List F) (ms:List Nat) (k:Nat):Option (List F):=MA L P (CH L q k b) (OU q k ms)
noncomputable def aC (L P q:Nat) (b:List F) (ms:List Nat) (k:Nat):List F:=match Xs L P q b ms k with
 |some r=>r.take (L - P)
 |none=>[]
theorem Mt {L P q:Nat} {b:List F} {ms:List Nat} {k:Nat} {r:List F} (h:Xs L P q b ms k=some r):aC L P q b ms k=r.take (L - P):=by
 unfold aC;rw [h]
noncomputable def We (L P q:Nat) (b:List F) (ms:List Nat):Option (List F):=if ∀k,k < q→(Xs L P q b ms k).isSome=true then some (HT (L - P) q (aC L P q b ms)) else none
theorem Wd {L P q:Nat} {b:List F} {ms:List Nat} (h:∀k,k < q→(Xs L P q b ms k).isSome=true):We L P q b ms=some (HT (L - P) q (aC L P q b ms)):=by unfold We;rw [if_pos h]
theorem kU {L P q:Nat} {b:List F} {ms:List Nat} {k:Nat} (hk:k < q) (h:Xs L P q b ms k=none):We L P q b ms=none:=by
 unfold We;rw [if_neg fun h2=>by have:=h2 k hk;rw [h] at this;cases this]
theorem Qr {L P q:Nat} (hL:L≤15) (hPL:P < L) (hq:0 < q) {d R:List F} {ms:List Nat} (hd:d.length=(L - P) * q) (hR:R.length=L * q) (hm:XJ (L * q) ms)
  (h:∀k,k < q→2 * (L3 L (GD P (CH (L - P) q k d)) (CH L q k R) (OU q k ms)).length+(OU q k ms).length≤P):We L P q R ms=some d:=by
 have hO:∀k,k < q→Xs L P q R ms k=some (GD P (CH (L - P) q k d)):=fun k hk=>by
  have hl:=CN (L - P) q k d
  have hc:=U1 P (CH (L - P) q k d)
  rw [hl,show L - P+P=L by omega] at hc
  exact km hL (CN ..) (by rw [G3,hl];omega) (Si hq hm) hc (h k hk)
 rw [Wd fun k hk=>by rw [hO k hk];rfl]
 congr 1
 rw [QT hq (V:=fun k=>CH (L - P) q k d) fun k hk=>by
  rw [Mt (hO k hk)]
  unfold GD
  rw [List.take_append_of_le_length (by rw [CN];omega),List.take_of_length_le (by rw [CN];omega)]]
 exact VG hq hd
end Go.Pw
end
section
open Go Go.Pw Go.Proofs
namespace Go.Pw
set_option maxRecDepth 100000
def Gw:PC :=
 .seq (.reg [] (
  ⟨some 3,none,.box,[.t 0]⟩ ::
  ⟨some 6,none,.mov,[.k (.d (.list true []))]⟩ ::
  ⟨some 7,none,.mov,[.k (.d (.int .i64 0))]⟩ ::
  []) [1,2,3])
 (.seq (.reg [] (
  ⟨some 18,none,.load true 3,[.t 3]⟩ ::
  ⟨some 19,none,.mov,[.t 1]⟩ ::
  ⟨some 20,none,.call 78,[.t 18,.t 19,.k (.fn 121 [])]⟩ ::
  ⟨some 17,none,.mov,[.t 20]⟩ ::
  ⟨some 21,none,.extract 0,[.t 17]⟩ ::
  ⟨some 22,none,.extract 1,[.t 17]⟩ ::
  ⟨some 8,none,.zero [.int .i64 0,.int .i64 0,.int .i64 0],[]⟩ ::
  ⟨none,none,.store 3,[.t 8,.t 21]⟩ ::
  ⟨some 9,none,.mov,[.t 22]⟩ ::
  []) [1,2,8,9])
 (.seq (.seq (.reg [] (
  ⟨some 23,none,.mov,[.t 9]⟩ ::
  ⟨some 24,none,.bin .neq,[.t 23,.k (.d (.int .i64 0))]⟩ ::
  []) [1,2,8,9,24])
 (.cond (.t 24)
  (.seq (.reg [] (
   ⟨some 25,none,.mov,[.t 9]⟩ ::
   ⟨some 6,none,.mov,[.k (.d (.list true []))]⟩ ::
   ⟨some 7,none,.mov,[.t 25]⟩ ::
   []) [6,7])
  (.ret))
  (.skip)))
 (.seq (.seq (.reg [] (
  ⟨some 26,none,.mov,[.t 2]⟩ ::
  ⟨some 27,none,.mov,[.t 1]⟩ ::
  ⟨some 28,none,.len false,[.t 27]⟩ ::
  ⟨some 29,none,.call 122,[.t 26,.t 28]⟩ ::
  ⟨some 30,none,.un .not,[.t 29]⟩ ::
  []) [1,2,8,30])
 (.cond (.t 30)
  (.seq (.reg [] (
   ⟨some 6,none,.mov,[.k (.d (.list true []))]⟩ ::
   ⟨some 7,none,.mov,[.k (.d (.int .i64 1))]⟩ ::
   []) [6,7])
  (.ret))
  (.skip)))
 (.seq (.reg [] (
  ⟨some 10,none,.mov,[.k (.d (.list true []))]⟩ ::
  []) [1,2,8,10])
 (.seq (.seq (.reg [] (
  ⟨some 31,none,.faddr 2,[.t 8]⟩ ::
  ⟨some 32,none,.load false 1,[.t 31]⟩ ::
  ⟨some 33,none,.mov,[.k (.d (.int .i64 0))]⟩ ::
  []) [1,2,8,10,32,33])
 (.block 0
  (.loop [.own 10 76 110 1] [1,2,8,10,32,33] [8,20,76,10020,900001,900002,901001,901002]
   (.seq (.reg [] (
    ⟨some 34,none,.bin .lss,[.t 33,.t 32]⟩ ::
    []) [1,2,8,10,32,33,34])
   (.seq (.cond (.t 34)
    (.skip)
    (.exit 0))
   (.seq (.block 1
    (.seq (.reg [] (
     ⟨some 35,none,.mov,[.t 33]⟩ ::
     ⟨some 11,none,.mov,[.t 35]⟩ ::
     []) [1,2,8,10,11,32,33])
    (.seq (.reg [] (
     ⟨some 12,none,.mov,[.k (.d (.list true []))]⟩ ::
     []) [1,2,8,10,11,12,32,33])
    (.seq (.seq (.reg [] (
     ⟨some 36,none,.mov,[.t 2]⟩ ::
     ⟨some 37,none,.len false,[.t 36]⟩ ::
     ⟨some 38,none,.mov,[.k (.d (.int .i64 0))]⟩ ::
     []) [1,2,8,10,11,12,32,33,36,37,38])
    (.block 2
     (.loop [.own 10 76 110 1,.own 12 54 3 1] [1,2,8,10,11,12,32,33,36,37,38] [8,20,54,76,10020,900001,900002,901001,901002]
      (.seq (.reg [] (
       ⟨some 39,none,.bin .lss,[.t 38,.t 37]⟩ ::
       []) [1,2,8,10,11,12,32,33,36,37,38,39])
      (.seq (.cond (.t 39)
       (.skip)
       (.exit 2))
      (.seq (.block 3
       (.seq (.reg [] (
        ⟨some 40,none,.iaddrS 1,[.t 36,.t 38]⟩ ::
        ⟨some 41,none,.load false 1,[.t 40]⟩ ::
        ⟨some 14,none,.mov,[.t 41]⟩ ::
        []) [1,2,8,10,11,12,14,32,33,36,37,38])
       (.seq (.reg [] (
        ⟨some 42,none,.mov,[.t 14]⟩ ::
        ⟨some 43,none,.faddr 2,[.t 8]⟩ ::
        ⟨some 44,none,.load false 1,[.t 43]⟩ ::
        ⟨some 45,none,.bin .rem,[.t 42,.t 44]⟩ ::
        ⟨some 46,none,.mov,[.t 11]⟩ ::
        ⟨some 47,none,.bin .eql,[.t 45,.t 46]⟩ ::
        []) [1,2,8,10,11,12,14,32,33,36,37,38,47])
       (.cond (.t 47)
        (.reg [] (
         ⟨some 48,none,.mov,[.t 12]⟩ ::
         ⟨some 49,none,.mov,[.t 14]⟩ ::
         ⟨some 50,none,.faddr 2,[.t 8]⟩ ::
         ⟨some 51,none,.load false 1,[.t 50]⟩ ::
         ⟨some 52,none,.bin .quo,[.t 49,.t 51]⟩ ::
         ⟨some 53,none,.mkrow 1 (.int .i64 0) 1 [0],[.t 52]⟩ ::
         ⟨some 54,none,.app 3 1 none true,[.t 48,.t 53]⟩ ::
         ⟨some 12,none,.mov,[.t 54]⟩ ::
         []) [1,2,8,10,11,12,32,33,36,37,38])
        (.skip)))))
      (.reg [] (
       ⟨some 55,none,.bin .add,[.t 38,.k (.d (.int .i64 1))]⟩ ::
       ⟨some 38,none,.mov,[.t 55]⟩ ::
       []) [1,2,8,10,11,12,32,33,36,37,38])))))))
    (.seq (.draw [.freeze 12] (
     (⟨some 57,none,.faddr 0,[.t 8]⟩,[]) ::
     (⟨some 58,none,.load true 2,[.t 57]⟩,[]) ::
     (⟨some 59,none,.load true 3,[.t 8]⟩,[]) ::
     (⟨some 60,none,.mov,[.t 1]⟩,[]) ::
     (⟨some 61,none,.mov,[.t 11]⟩,[]) ::
     (⟨some 62,none,.call 81,[.t 59,.t 60,.t 61]⟩,[1]) ::
     (⟨some 63,none,.mov,[.t 12]⟩,[]) ::
     (⟨some 64,none,.call 123,[.t 58,.t 62,.t 63]⟩,[]) ::
     (⟨some 56,none,.mov,[.t 64]⟩,[]) ::
     (⟨some 65,none,.extract 0,[.t 56]⟩,[]) ::
     (⟨some 66,none,.extract 1,[.t 56]⟩,[]) ::
     (⟨some 15,none,.mov,[.t 65]⟩,[]) ::
     (⟨some 16,none,.mov,[.t 66]⟩,[]) ::
     []) [1,2,8,10,15,16,32,33])
    (.seq (.seq (.reg [] (
     ⟨some 67,none,.mov,[.t 16]⟩ ::
     ⟨some 68,none,.un .not,[.t 67]⟩ ::
     []) [1,2,8,10,15,32,33,68])
    (.cond (.t 68)
     (.seq (.reg [] (
      ⟨some 6,none,.mov,[.k (.d (.list true []))]⟩ ::
      ⟨some 7,none,.mov,[.k (.d (.int .i64 52))]⟩ ::
      []) [6,7])
     (.ret))
     (.skip)))
    (.reg [] (
     ⟨some 69,none,.mov,[.t 10]⟩ ::
     ⟨some 70,none,.mov,[.t 15]⟩ ::
     ⟨some 71,none,.faddr 0,[.t 8]⟩ ::
     ⟨some 72,none,.load true 2,[.t 71]⟩ ::
     ⟨some 73,none,.call 79,[.t 72]⟩ ::
     ⟨some 74,none,.slice 1 false true false,[.t 70,.t 73]⟩ ::
     ⟨some 75,none,.mkrow 1 (.list true []) 1 [0],[.t 74]⟩ ::
     ⟨some 76,none,.app 110 1 none true,[.t 69,.t 75]⟩ ::
     ⟨some 10,none,.mov,[.t 76]⟩ ::
     []) [1,2,8,10,32,33])))))))
   (.reg [] (
    ⟨some 77,none,.bin .add,[.t 33,.k (.d (.int .i64 1))]⟩ ::
    ⟨some 33,none,.mov,[.t 77]⟩ ::
    []) [1,2,8,10,32,33])))))))
 (.seq (.reg [.freeze 10] (
  ⟨some 78,none,.load true 3,[.t 8]⟩ ::
  ⟨some 79,none,.mov,[.t 10]⟩ ::
  ⟨some 80,none,.call 82,[.t 78,.t 79]⟩ ::
  ⟨some 6,none,.mov,[.t 80]⟩ ::
  ⟨some 7,none,.mov,[.k (.d (.int .i64 0))]⟩ ::
  []) [6,7])
 (.ret)))))))
theorem LK:Ch E0 Iq Gw [.t 6,.t 7] 81:=AM (fl:=[]) (by kernel_rfl)
def Yo:PC :=
 .seq (.reg [] (
  ⟨some 3,none,.box,[.t 0]⟩ ::
  ⟨some 6,none,.mov,[.k (.d (.list true []))]⟩ ::
  ⟨some 7,none,.mov,[.k (.d (.int .i64 0))]⟩ ::
  []) [1,2,3])
 (.seq (.seq (.reg [] (
  ⟨some 16,none,.load true 3,[.t 3]⟩ ::
  ⟨some 17,none,.call 51,[.t 16]⟩ ::
  ⟨some 18,none,.bin .neq,[.t 17,.k (.d (.int .i64 0))]⟩ ::
  []) [1,2,3,18])
 (.cond (.t 18)
  (.seq (.reg [] (
   ⟨some 6,none,.mov,[.k (.d (.list true []))]⟩ ::
   ⟨some 7,none,.mov,[.k (.d (.int .i64 50))]⟩ ::
   []) [6,7])
  (.ret))
  (.skip)))
 (.seq (.seq (.reg [] (
  ⟨some 19,none,.mov,[.t 1]⟩ ::
  ⟨some 20,none,.faddr 2,[.t 3]⟩ ::
  ⟨some 21,none,.load false 1,[.t 20]⟩ ::
  ⟨some 22,none,.faddr 0,[.t 3]⟩ ::
  ⟨some 23,none,.faddr 0,[.t 22]⟩ ::
  ⟨some 24,none,.load false 1,[.t 23]⟩ ::
  ⟨some 25,none,.bin .mul,[.t 21,.t 24]⟩ ::
  ⟨some 26,none,.call 37,[.t 19,.t 25]⟩ ::
  ⟨some 27,none,.un .not,[.t 26]⟩ ::
  []) [1,2,3,27])
 (.cond (.t 27)
  (.seq (.reg [] (
   ⟨some 6,none,.mov,[.k (.d (.list true []))]⟩ ::
   ⟨some 7,none,.mov,[.k (.d (.int .i64 51))]⟩ ::
   []) [6,7])
  (.ret))
  (.skip)))
 (.seq (.seq (.reg [] (
  ⟨some 28,none,.mov,[.t 2]⟩ ::
  ⟨some 29,none,.mov,[.t 1]⟩ ::
  ⟨some 30,none,.len false,[.t 29]⟩ ::
  ⟨some 31,none,.call 98,[.t 28,.t 30]⟩ ::
  ⟨some 32,none,.un .not,[.t 31]⟩ ::
  []) [1,2,3,32])
 (.cond (.t 32)
  (.seq (.reg [] (
   ⟨some 6,none,.mov,[.k (.d (.list true []))]⟩ ::
   ⟨some 7,none,.mov,[.k (.d (.int .i64 1))]⟩ ::
   []) [6,7])
  (.ret))
  (.skip)))
 (.seq (.reg [] (
  ⟨some 33,none,.faddr 0,[.t 3]⟩ ::
  ⟨some 34,none,.faddr 0,[.t 33]⟩ ::
  ⟨some 35,none,.load false 1,[.t 34]⟩ ::
  ⟨some 36,none,.faddr 0,[.t 3]⟩ ::
  ⟨some 37,none,.faddr 1,[.t 36]⟩ ::
  ⟨some 38,none,.load false 1,[.t 37]⟩ ::
  ⟨some 39,none,.bin .sub,[.t 35,.t 38]⟩ ::
  ⟨some 8,none,.mov,[.t 39]⟩ ::
  []) [1,2,3,8])
 (.seq (.reg [] (
  ⟨some 40,none,.faddr 2,[.t 3]⟩ ::
  ⟨some 41,none,.load false 1,[.t 40]⟩ ::
  ⟨some 42,none,.mov,[.t 8]⟩ ::
  ⟨some 43,none,.bin .mul,[.t 41,.t 42]⟩ ::
  ⟨some 44,none,.mksl 3 1 (.int .i64 0) true,[.t 43,.t 43]⟩ ::
  ⟨some 9,none,.mov,[.t 44]⟩ ::
  []) [1,2,3,8,9])
 (.seq (.seq (.reg [] (
  ⟨some 10,none,.mov,[.k (.d (.int .i64 0))]⟩ ::
  []) [1,2,3,8,9,10])
 (.block 0
  (.loop [] [1,2,3,8,9,10] [3,44,10085,900000,900001,900002,901000,901001,901002]
   (.seq (.seq (.reg [] (
    ⟨some 45,none,.mov,[.t 10]⟩ ::
    ⟨some 46,none,.faddr 2,[.t 3]⟩ ::
    ⟨some 47,none,.load false 1,[.t 46]⟩ ::
    ⟨some 48,none,.bin .lss,[.t 45,.t 47]⟩ ::
    []) [1,2,3,8,9,10,48])
   (.cond (.t 48)
    (.skip)
    (.exit 0)))
   (.seq (.block 1
    (.seq (.reg [] (
     ⟨some 11,none,.mov,[.k (.d (.list true []))]⟩ ::
     []) [1,2,3,8,9,10,11])
    (.seq (.seq (.reg [] (
     ⟨some 12,none,.mov,[.k (.d (.int .i64 0))]⟩ ::
     []) [1,2,3,8,9,10,11,12])
    (.block 2
     (.loop [.own 11 75 3 1] [1,2,3,8,9,10,11,12] [3,44,75,10085,900000,900001,900002,901000,901001,901002]
      (.seq (.seq (.reg [] (
       ⟨some 51,none,.mov,[.t 12]⟩ ::
       ⟨some 52,none,.mov,[.t 2]⟩ ::
       ⟨some 53,none,.len false,[.t 52]⟩ ::
       ⟨some 54,none,.bin .lss,[.t 51,.t 53]⟩ ::
       []) [1,2,3,8,9,10,11,12,54])
      (.cond (.t 54)
       (.skip)
       (.exit 2)))
      (.seq (.block 3
       (.seq (.draw [] (
        (⟨some 57,none,.mov,[.t 2]⟩,[]) ::
        (⟨some 58,none,.mov,[.t 12]⟩,[]) ::
        (⟨some 59,none,.iaddrS 1,[.t 57,.t 58]⟩,[]) ::
        (⟨some 60,none,.load false 1,[.t 59]⟩,[]) ::
        (⟨some 61,none,.faddr 2,[.t 3]⟩,[]) ::
        (⟨some 62,none,.load false 1,[.t 61]⟩,[]) ::
        (⟨some 63,none,.bin .rem,[.t 60,.t 62]⟩,[]) ::
        (⟨some 64,none,.mov,[.t 10]⟩,[]) ::
        (⟨some 65,none,.bin .eql,[.t 63,.t 64]⟩,[]) ::
        []) [1,2,3,8,9,10,11,12,65])
       (.cond (.t 65)
        (.draw [] (
         (⟨some 66,none,.mov,[.t 11]⟩,[]) ::
         (⟨some 67,none,.mov,[.t 2]⟩,[]) ::
         (⟨some 68,none,.mov,[.t 12]⟩,[]) ::
         (⟨some 69,none,.iaddrS 1,[.t 67,.t 68]⟩,[]) ::
         (⟨some 70,none,.load false 1,[.t 69]⟩,[]) ::
         (⟨some 71,none,.faddr 2,[.t 3]⟩,[]) ::
         (⟨some 72,none,.load false 1,[.t 71]⟩,[]) ::
         (⟨some 73,none,.bin .quo,[.t 70,.t 72]⟩,[]) ::
         (⟨some 74,none,.mkrow 1 (.int .i64 0) 1 [0],[.t 73]⟩,[]) ::
         (⟨some 75,none,.app 3 1 none true,[.t 66,.t 74]⟩,[]) ::
         (⟨some 11,none,.mov,[.t 75]⟩,[]) ::
         []) [1,2,3,8,9,10,11,12])
        (.skip))))
      (.reg [] (
       ⟨some 55,none,.mov,[.t 12]⟩ ::
       ⟨some 56,none,.bin .add,[.t 55,.k (.d (.int .i64 1))]⟩ ::
       ⟨some 12,none,.mov,[.t 56]⟩ ::
       []) [1,2,3,8,9,10,11,12]))))))
    (.seq (.draw [.freeze 11] (
     (⟨some 77,none,.faddr 0,[.t 3]⟩,[]) ::
     (⟨some 78,none,.load true 2,[.t 77]⟩,[]) ::
     (⟨some 79,none,.mov,[.t 1]⟩,[]) ::
     (⟨some 80,none,.faddr 2,[.t 3]⟩,[]) ::
     (⟨some 81,none,.load false 1,[.t 80]⟩,[]) ::
     (⟨some 82,none,.mov,[.t 10]⟩,[]) ::
     (⟨some 83,none,.call 95,[.t 79,.t 81,.t 82]⟩,[1]) ::
     (⟨some 84,none,.mov,[.t 11]⟩,[]) ::
     (⟨some 85,none,.call 99,[.t 78,.t 83,.t 84]⟩,[]) ::
     (⟨some 76,none,.mov,[.t 85]⟩,[]) ::
     (⟨some 86,none,.extract 0,[.t 76]⟩,[]) ::
     (⟨some 87,none,.extract 1,[.t 76]⟩,[]) ::
     (⟨some 13,none,.mov,[.t 86]⟩,[]) ::
     (⟨some 14,none,.mov,[.t 87]⟩,[]) ::
     []) [1,2,3,8,9,10,13,14])
    (.seq (.seq (.reg [] (
     ⟨some 88,none,.mov,[.t 14]⟩ ::
     ⟨some 89,none,.un .not,[.t 88]⟩ ::
     []) [1,2,3,8,9,10,13,89])
    (.cond (.t 89)
     (.seq (.reg [] (
      ⟨some 6,none,.mov,[.k (.d (.list true []))]⟩ ::
      ⟨some 7,none,.mov,[.k (.d (.int .i64 52))]⟩ ::
      []) [6,7])
     (.ret))
     (.skip)))
    (.seq (.reg [] (
     ⟨some 15,none,.mov,[.k (.d (.int .i64 0))]⟩ ::
     []) [1,2,3,8,9,10,13,15])
    (.block 4
     (.loop [] [1,2,3,8,9,10,13,15] [3,44,85,10085,900000,900001,900002,901000,901001,901002]
      (.seq (.seq (.reg [] (
       ⟨some 90,none,.mov,[.t 15]⟩ ::
       ⟨some 91,none,.mov,[.t 8]⟩ ::
       ⟨some 92,none,.bin .lss,[.t 90,.t 91]⟩ ::
       []) [1,2,3,8,9,10,13,15,92])
      (.cond (.t 92)
       (.skip)
       (.exit 4)))
      (.seq (.block 5
       (.draw [] (
        (⟨some 95,none,.mov,[.t 9]⟩,[]) ::
        (⟨some 96,none,.mov,[.t 15]⟩,[]) ::
        (⟨some 97,none,.faddr 2,[.t 3]⟩,[]) ::
        (⟨some 98,none,.load false 1,[.t 97]⟩,[]) ::
        (⟨some 99,none,.bin .mul,[.t 96,.t 98]⟩,[]) ::
        (⟨some 100,none,.mov,[.t 10]⟩,[]) ::
        (⟨some 101,none,.bin .add,[.t 99,.t 100]⟩,[]) ::
        (⟨some 102,none,.mov,[.t 13]⟩,[]) ::
        (⟨some 103,none,.mov,[.t 15]⟩,[]) ::
        (⟨some 104,none,.iaddrS 1,[.t 102,.t 103]⟩,[]) ::
        (⟨some 105,none,.load false 1,[.t 104]⟩,[]) ::
        (⟨some 106,none,.iaddrS 1,[.t 95,.t 101]⟩,[]) ::
        (⟨none,none,.store 1,[.t 106,.t 105]⟩,[]) ::
        []) [1,2,3,8,9,10,13,15]))
      (.reg [] (
       ⟨some 93,none,.mov,[.t 15]⟩ ::
       ⟨some 94,none,.bin .add,[.t 93,.k (.d (.int .i64 1))]⟩ ::
       ⟨some 15,none,.mov,[.t 94]⟩ ::
       []) [1,2,3,8,9,10,13,15])))))))))))
   (.reg [] (
    ⟨some 49,none,.mov,[.t 10]⟩ ::
    ⟨some 50,none,.bin .add,[.t 49,.k (.d (.int .i64 1))]⟩ ::
    ⟨some 10,none,.mov,[.t 50]⟩ ::
    []) [1,2,3,8,9,10]))))))
 (.seq (.reg [] (
  ⟨some 107,none,.mov,[.t 9]⟩ ::
  ⟨some 6,none,.mov,[.t 107]⟩ ::
  ⟨some 7,none,.mov,[.k (.d (.int .i64 0))]⟩ ::
  []) [6,7])
 (.ret))))))))
end Go.Pw
end
section
open Go Go.Pw Go.Proofs
namespace Go.Pw
set_option linter.unusedSimpArgs false
set_option linter.unusedVariables false
set_option maxRecDepth 100000
set_option maxHeartbeats 3200000
def eQ (l:List (List F)):List D:=l.map fun r=>.list false (us r)
theorem eo (l:List (List F)):(eQ l).length=l.length:=by simp [eQ]
theorem aX (l:List (List F)) (r:List F):eQ l++[.list false (us r)]=eQ (l++[r]):=by simp [eQ]
theorem Yv {ls:List (List F)} {i:Nat} {A:D→Prop}:BO (eQ ls)[i]? A=(i < ls.length∧A (.list false (us (ls[i]?.getD [])))):=by
 unfold eQ
 rw [List.getElem?_map]
 by_cases h:i < ls.length
 ·simp [h,BO]
 ·have:ls[i]?=none:=List.getElem?_eq_none (by omega)
  simp [this,h,BO]
attribute [go_sem] eo aX Yv
theorem Yp (m q k j:Nat) (b:List F) (h:j < m):(CH m q k b).take j++[b[j * q+k]?.getD 0]=(CH m q k b).take (j+1):=by
 rw [←Nt j h,Bk _ 0 j (by rw [CN];exact h)]
theorem lW {m q k j n:Nat} (hk:k < q) (hn:n=m * q) (h:j < m):k+j * q < n:=by have:=QA hk h;omega
theorem lX {m q k n:Nat} (hn:n=m * q):¬k+m * q < n:=by omega
theorem bv {m q:Nat} (hm:m≤15) (hq:q≤8):m * q≤120:=Nat.mul_le_mul hm hq
def Va (q:Nat) (W:Nat→List F):List (List F):=(List.range q).map W
theorem O4 (q:Nat) (W:Nat→List F):(Va q W).length=q:=by simp [Va]
theorem SB {q:Nat} {W:Nat→List F} {k:Nat} (h:k < q):(Va q W)[k]?.getD []=W k:=by simp [Va,h]
theorem TQ {q:Nat} {W:Nat→List F} {k:Nat} (h:k < q):(Va q W).take k++[W k]=(Va q W).take (k+1):=by
 have:=Bk (Va q W) [] k (by rw [O4];exact h)
 rwa [SB h] at this
theorem dt {m q i k:Nat} {W:Nat→List F} (hi:i < m) (hk:k < q):(HT m q W).take (i * q+k)++[(W k)[i]?.getD 0]=(HT m q W).take (i * q+(k+1)):=by
 have h:=QA hk hi
 rw [←Nat.add_assoc,←Bk _ 0 (i * q+k) (by rw [HE];exact h),NS _ h,S4 hk,P' hk]
theorem Z3 (b:Bool):(b && decide ((0:Nat)=0))=b:=by simp
theorem QV (b:Bool) {k:Nat} (h:k≠0):(b && decide (k=0))=false:=by simp [h]
def spE (L P Q:Int) (xs:List Int):Int:=if Ct L P Q=true then if CG xs (Q * (L - P))=true then 0 else 51 else 50
def TN (L P Q:Int) (xs:List Int):List Int:=if Ct L P Q=true then if CG xs (Q * (L - P))=true then iv (RM L.toNat P.toNat Q.toNat (fs xs)) else [] else []
noncomputable def lc (L P Q:Int) (xs ms:List Int):Int:=if Ct L P Q=true then if CG xs (Q * L)=true then if D9 ms xs.length=true then oE (We L.toNat P.toNat Q.toNat (fs xs) (nt ms)) else 1 else 51 else 50
noncomputable def k8 (L P Q:Int) (xs ms:List Int):List Int:=if Ct L P Q=true then if CG xs (Q * L)=true then if D9 ms xs.length=true then iv (oL (We L.toNat P.toNat Q.toNat (fs xs) (nt ms))) else [] else [] else []
theorem Ix {L P Q:Int} (h:Ct L P Q=true):∃l p q:Nat,L=(l:Int)∧P=(p:Int)∧Q=(q:Int)∧2≤l∧l≤15∧1≤p∧p≤8∧p < l∧1≤q∧q≤8∧DP (l:Int) (p:Int)=true:=by
 obtain⟨hc,h1,h2⟩:=TS h
 obtain⟨l,p,rfl,rfl,b1,b2,b3,b4,b5⟩:=Zx hc
 exact⟨l,p,Q.toNat,rfl,rfl,by omega,b1,b2,b3,b4,b5,by omega,by omega,hc⟩
theorem Sk {n m q:Nat} (h:(n:Int)=(q:Int) * (m:Int)):n=m * q:=by
 rw [Nat.mul_comm];exact_mod_cast h
theorem bx (q k i:Nat) (ms:List Nat) (h:i < ms.length):OU q k (ms.take (i+1))=if (ms[i]?.getD 0) % q=k then OU q k (ms.take i)++[(ms[i]?.getD 0) / q] else OU q k (ms.take i):=by
 rw [←Bk ms 0 i h,UX]
attribute [local congr] Bh A_ A' Ap Bi Av Ax Aw Ao Ah Ab AZ Ar Ac As BI BM BK BL BJ BN BF Af Au Ag BD BQ Ae BG BH BE BB BC A9 BA Aq Ad
attribute [local irreducible] IntKind.wrap A5 Option.getD and or
theorem Ia (L P q m k:Nat) (n:Bool) (b:List F) (hm:m≤15) (hm1:1≤m) (hq:q≤8) (hk:k < q) (hb:b.length=m * q) :
  CF E0 GI [.agg [.int .i64 (L:Int),.int .i64 (P:Int),.int .i64 (q:Int)],.list n (Ai (iv b)),.int .i64 (k:Int)] (.list false (us (CH m q k b))):=by
 have hmq:=bv hm hq
 have hpl:=CN m q k b
 refine AO I' Am (by simp) fun hwf=>?_
 rw [AW];unfold Fj
 (try (simp -implicitDefEqProofs only [go_sem]));repeat' first|(with_reducible first|exact True.intro|refine And.intro ?_ ?_|intro _)|(((with_reducible refine AS ?_ ?_)<;>intro _)<;>try (simp -implicitDefEqProofs only [go_sem]))|simp (disch:=omega) only [AC,AH,AP,AJ,AD,AQ,AI,AA]|((with_reducible refine BW ?_);refine⟨(_,_,_),rfl,?_,?_⟩)
 all_goals first|omega|(simp;done)|(simp;omega)|skip
 refine AY (α:=Nat×Nat×Bool) (l0:=?l1) (m0:=?m1) (fun x=>[(8,.d (.int .i64 (x.2.1:Int)))]) (fun x=>[(25,.row 135 1 x.2.2 (us ((CH m q k b).take x.1)))]) (fun x=>x.1≤m∧x.2.1=k+x.1 * q∧x.2.2=decide (x.1=0)) (fun x=>m - x.1) (0,k,true) ?h01 ?he1 ?he21 ?hI1 ?step1
 case h01=>(simp -implicitDefEqProofs only [go_sem];rfl)
 case he1=>rfl
 case he21=>rfl
 case' step1=>(rintro⟨j,s,e⟩ hI;try dsimp only at hI)
 case' hI1=>try dsimp only
 ·exact⟨Nat.zero_le _,by simp,rfl⟩
 ·obtain⟨h1,hs,h2⟩:=hI
  change e=decide (j=0) at h2
  subst h2
  have hjq:=Nat.mul_le_mul_right q h1
  by_cases h:j < m
  ·have h0:=lW hk hb h
   rw [←hs] at h0
   have h':(s:Int) < (b.length:Int):=by omega
   have hs2:s+q=k+(j+1) * q:=by rw [Nat.add_mul,Nat.one_mul];omega
   have hwj:IntKind.i64.wrap ((s:Int)+(q:Int))=((s+q:Nat):Int):=by rw [AC _ (by omega)];omega
   have hst:=Yp m q k j b h
   rw [Nat.add_comm (j * q) k,←hs] at hst
   (try (simp -implicitDefEqProofs only [go_sem,h0,h',hwj,hst,i8]));repeat' first|(with_reducible first|exact True.intro|refine And.intro ?_ ?_|intro _)|(((with_reducible refine AS ?_ ?_)<;>intro _)<;>try (simp -implicitDefEqProofs only [go_sem,h0,h',hwj,hst,i8]))|simp (disch:=omega) only [AC,AH,AP,AJ,AD,AQ,AI,AA]|((with_reducible refine BW ?_);refine⟨(_,_,_),rfl,?_,?_⟩)
   all_goals first|omega|(simp;done)|(simp;omega)|skip
   all_goals first|exact⟨hs2,rfl⟩|exact hs2|rfl|skip
  ·have hje:j=m:=by omega
   subst hje
   have h0:=lX (k:=k) hb
   have h':¬(s:Int) < (b.length:Int):=by omega
   have htk:(CH j q k b).take j=CH j q k b:=List.take_of_length_le (by omega)
   have hj0:decide (j=0)=false:=decide_eq_false (by omega)
   rw [htk,hj0]
   (try (simp -implicitDefEqProofs only [go_sem,h']));repeat' first|(with_reducible first|exact True.intro|refine And.intro ?_ ?_|intro _)|(((with_reducible refine AS ?_ ?_)<;>intro _)<;>try (simp -implicitDefEqProofs only [go_sem,h']))|simp (disch:=omega) only [AC,AH,AP,AJ,AD,AQ,AI,AA]|((with_reducible refine BW ?_);refine⟨(_,_,_),rfl,?_,?_⟩)
   all_goals first|omega|(simp;done)|(simp;omega)|skip
   all_goals first|rfl|skip
theorem Ib (x:D) (q m:Nat) (W:Nat→List F) (hm:m≤15) (hm1:1≤m) (hq:q≤8) (hq1:1≤q) (hW:∀k,k < q→(W k).length=m) (hx:∃a b c,x=.agg [.int .i64 a,.int .i64 b,.int .i64 c]) :
  CF E0 GJ [x,.list false (eQ (Va q W))] (.list false (Ai (iv (HT m q W)))):=by
 obtain⟨a,b,c,rfl⟩:=hx
 have hmq:=bv hm hq
 have hbl:=HE m q W
 have hwl:=O4 q W
 have h0:0 < (Va q W).length:=by omega
 have hw0:(Va q W)[0]?.getD []=W 0:=SB (by omega)
 have hl0:=hW 0 (by omega)
 refine AO JA Am (by simp) fun hwf=>?_
 rw [AW];unfold Fk
 (try (simp -implicitDefEqProofs only [go_sem,h0,hw0,hl0]));repeat' first|(with_reducible first|exact True.intro|refine And.intro ?_ ?_|intro _)|(((with_reducible refine AS ?_ ?_)<;>intro _)<;>try (simp -implicitDefEqProofs only [go_sem,h0,hw0,hl0]))|simp (disch:=omega) only [AC,AH,AP,AJ,AD,AQ,AI,AA]|((with_reducible refine BW ?_);refine⟨(_,_,_),rfl,?_,?_⟩)
 all_goals first|omega|(simp;done)|(simp;omega)|skip
 refine AY (α:=Nat×Nat×Bool) (l0:=?l2) (m0:=?m2) (fun x=>[(13,.d (.int .i64 (x.1:Int)))]) (fun x=>[(29,.row 3 1 x.2.2 (Ai (iv ((HT m q W).take x.2.1))))]) (fun x=>x.1≤m∧x.2.1=x.1 * q∧x.2.2=decide (x.1=0)) (fun x=>m - x.1) (0,0,true) ?h02 ?he2 ?he22 ?hI2 ?step2
 case h02=>(simp -implicitDefEqProofs only [go_sem];rfl)
 case he2=>rfl
 case he22=>rfl
 case' step2=>(rintro⟨i,n,e⟩ hI;try dsimp only at hI)
 case' hI2=>try dsimp only
 ·exact⟨Nat.zero_le _,by simp,rfl⟩
 ·obtain⟨i1,hn,i2⟩:=hI
  change e=decide (i=0) at i2
  subst i2
  have hiq:=Nat.mul_le_mul_right q i1
  by_cases h:i < m
  ·have h':(i:Int) < (m:Int):=by omega
   have hwi:IntKind.i64.wrap ((i:Int)+1)=((i+1:Nat):Int):=by rw [AC _ (by omega)];omega
   have hbs:=fun k hk=>@dt m q i k W h hk
   have hend:i * q+q=(i+1) * q:=by rw [Nat.add_mul];omega
   (try (simp -implicitDefEqProofs only [go_sem,h',hwl]));repeat' first|(with_reducible first|exact True.intro|refine And.intro ?_ ?_|intro _)|(((with_reducible refine AS ?_ ?_)<;>intro _)<;>try (simp -implicitDefEqProofs only [go_sem,h',hwl]))|simp (disch:=omega) only [AC,AH,AP,AJ,AD,AQ,AI,AA]|((with_reducible refine BW ?_);refine⟨(_,_,_),rfl,?_,?_⟩)
   all_goals first|omega|(simp;done)|(simp;omega)|skip
   refine AY (α:=Nat×Nat×Bool) (l0:=?l3) (m0:=?m3) (fun x=>[(18,.d (.int .i64 (x.1:Int)))]) (fun x=>[(29,.row 3 1 x.2.2 (Ai (iv ((HT m q W).take x.2.1))))]) (fun x=>x.1≤q∧x.2.1=i * q+x.1∧x.2.2=(decide (i=0) && decide (x.1=0))) (fun x=>q - x.1) (0,n,(decide (i=0))) ?h03 ?he3 ?he23 ?hI3 ?step3
   case h03=>(simp -implicitDefEqProofs only [go_sem];rfl)
   case he3=>rfl
   case he23=>rfl
   case' step3=>(rintro⟨k,n2,e2⟩ hI2;try dsimp only at hI2)
   case' hI3=>try dsimp only
   ·exact⟨Nat.zero_le _,hn,(Z3 _).symm⟩
   ·obtain⟨k1,hn2,k2⟩:=hI2
    change e2=(decide (i=0) && decide (k=0)) at k2
    by_cases hk:k < q
    ·have hk':(k:Int) < (q:Int):=by omega
     have hwk:IntKind.i64.wrap ((k:Int)+1)=((k+1:Nat):Int):=by rw [AC _ (by omega)];omega
     have hg:=SB (W:=W) hk
     have hkl:=hW k hk
     have hst:=hbs k hk
     have hn3:n2+1=i * q+(k+1):=by omega
     rw [←hn2,←hn3] at hst
     have hfe:false=(decide (i=0) && decide (k+1=0)):=(QV _ (by omega)).symm
     have hnl:n2≤120:=by have:=QA hk h;omega
     (try (simp -implicitDefEqProofs only [go_sem,hk',hwk,hwl,hk,hg,hkl,hst,h,aL]));repeat' first|(with_reducible first|exact True.intro|refine And.intro ?_ ?_|intro _)|(((with_reducible refine AS ?_ ?_)<;>intro _)<;>try (simp -implicitDefEqProofs only [go_sem,hk',hwk,hwl,hk,hg,hkl,hst,h,aL]))|simp (disch:=omega) only [AC,AH,AP,AJ,AD,AQ,AI,AA]|((with_reducible refine BW ?_);refine⟨(_,_,_),rfl,?_,?_⟩)
     all_goals first|omega|(simp;done)|(simp;omega)|skip
     all_goals first|exact⟨hn3,hfe⟩|exact hn3|exact hfe|rfl|(simp;done)|skip
    ·have hk':¬(k:Int) < (q:Int):=by omega
     have hke:k=q:=by omega
     have hn3:n2=(i+1) * q:=by omega
     have hfe:e2=decide (i+1=0):=by rw [k2,QV _ (by omega),decide_eq_false (by omega)]
     (try (simp -implicitDefEqProofs only [go_sem,hk',hwl,hwi]));repeat' first|(with_reducible first|exact True.intro|refine And.intro ?_ ?_|intro _)|(((with_reducible refine AS ?_ ?_)<;>intro _)<;>try (simp -implicitDefEqProofs only [go_sem,hk',hwl,hwi]))|simp (disch:=omega) only [AC,AH,AP,AJ,AD,AQ,AI,AA]|((with_reducible refine BW ?_);refine⟨(_,_,_),rfl,?_,?_⟩)
     all_goals first|omega|(simp;done)|(simp;omega)|skip
     all_goals first|exact⟨hn3,hfe⟩|exact hn3|exact hfe|rfl|(simp;done)|skip
  ·have h':¬(i:Int) < (m:Int):=by omega
   have hie:i=m:=by omega
   subst hie
   have htk:(HT i q W).take n=HT i q W:=List.take_of_length_le (by omega)
   have hi0:decide (i=0)=false:=decide_eq_false (by omega)
   rw [htk,hi0]
   (try (simp -implicitDefEqProofs only [go_sem,h']));repeat' first|(with_reducible first|exact True.intro|refine And.intro ?_ ?_|intro _)|(((with_reducible refine AS ?_ ?_)<;>intro _)<;>try (simp -implicitDefEqProofs only [go_sem,h']))|simp (disch:=omega) only [AC,AH,AP,AJ,AD,AQ,AI,AA]|((with_reducible refine BW ?_);refine⟨(_,_,_),rfl,?_,?_⟩)
   all_goals first|omega|(simp;done)|(simp;omega)|skip
   all_goals first|rfl|skip
theorem MF (L P Q:Int) (n:Bool) (xs:List Int):CF E0 Ip [.agg [.int .i64 L,.int .i64 P,.int .i64 Q],.list n (Ai xs)] (.tup [.list (TN L P Q xs).isEmpty (Ai (TN L P Q xs)),.int .i64 (spE L P Q xs)]):=by
 refine AO L6 Am (by simp) fun hwf=>?_
 rw [AW];unfold Ha TN spE
 cases hw:Ct L P Q with
 |false =>
  have c1:=Dh L P Q n xs Cv (if DP L P=true then L - P else 0) R0 (by
   split
   ·rename_i hc;have:=GF hc;omega
   ·omega) fun hc=>by rw [if_pos hc];have:=GF hc;exact Ft L P (by omega)
  unfold jB at c1
  rw [hw] at c1
  simp only [Bool.false_eq_true,if_false] at c1 ⊢
  rw [Pp] at c1
  (try (simp -implicitDefEqProofs only [go_sem]));repeat' first|(with_reducible first|exact True.intro|refine And.intro ?_ ?_|intro _)|(((with_reducible refine isCall ?_);first|refine AF (c1) rfl ?_ ?_|refine AE (c1) rfl ?_|refine AB (c1) rfl ?_ ?_|refine AG (c1) rfl rfl ?_)<;>try (simp -implicitDefEqProofs only [go_sem]))|(((with_reducible refine AS ?_ ?_)<;>intro _)<;>try (simp -implicitDefEqProofs only [go_sem]))|simp (disch:=omega) only [AC,AH,AP,AJ,AD,AQ,AI,AA]|((with_reducible refine An ?_);refine⟨(_,_),rfl,?_,?_⟩)
  all_goals first|rfl|(simp;done)|skip
 |true =>
  obtain⟨l,p,q,rfl,rfl,rfl,b1,b2,b3,b4,b5,b6,b7,hc⟩:=Ix hw
  have c1:=Dh l p q n xs Cv ((l:Int) - (p:Int)) R0 (by omega) fun hc=>Ft l p (by omega)
  unfold jB at c1
  rw [hw] at c1
  simp only [if_true] at c1 ⊢
  cases hs:CG xs ((q:Int) * ((l:Int) - (p:Int))) with
  |false =>
   rw [hs] at c1
   simp only [Bool.false_eq_true,if_false] at c1 ⊢
   rw [WA] at c1
   (try (simp -implicitDefEqProofs only [go_sem]));repeat' first|(with_reducible first|exact True.intro|refine And.intro ?_ ?_|intro _)|(((with_reducible refine isCall ?_);first|refine AF (c1) rfl ?_ ?_|refine AE (c1) rfl ?_|refine AB (c1) rfl ?_ ?_|refine AG (c1) rfl rfl ?_)<;>try (simp -implicitDefEqProofs only [go_sem]))|(((with_reducible refine AS ?_ ?_)<;>intro _)<;>try (simp -implicitDefEqProofs only [go_sem]))|simp (disch:=omega) only [AC,AH,AP,AJ,AD,AQ,AI,AA]|((with_reducible refine An ?_);refine⟨(_,_),rfl,?_,?_⟩)
   all_goals first|rfl|(simp;done)|skip
  |true =>
   rw [hs] at c1
   simp only [if_true] at c1 ⊢
   rw [Xg] at c1
   obtain⟨hl,hf⟩:=PR hs
   obtain⟨d,hd⟩:∃d,fs xs=d:=⟨_,rfl⟩
   rw [hd] at hf ⊢
   subst hf
   rw [I8,show ((l:Int) - (p:Int))=((l - p:Nat):Int) by omega] at hl
   have hdl:=Sk hl
   simp only [Int.toNat_natCast]
   have c2:=fun k hk=>Ia l p q (l - p) k n d (by omega) (by omega) b7 hk hdl
   have hW0:RM l p q d=HT l q fun k=>GD p (CH (l - p) q k d):=rfl
   have c3:=fun k=>MD l p false (CH (l - p) q k d) b2 b3 (by rw [CN];omega) (by rw [CN];omega) rfl
   have hWl:∀k,k < q→(GD p (CH (l - p) q k d)).length=l:=fun k _=>by rw [G3,CN];omega
   obtain⟨W,hW⟩:∃W:Nat→List F,(fun k=>GD p (CH (l - p) q k d))=W:=⟨_,rfl⟩
   have hWk:∀k,GD p (CH (l - p) q k d)=W k:=fun k=>by rw [←hW]
   simp only [hWk] at c3 hWl
   rw [hW] at hW0
   rw [hW0]
   have c4:=Ib (.agg [.int .i64 (l:Int),.int .i64 (p:Int),.int .i64 (q:Int)]) q l W b2 (by omega) b7 b6 hWl ⟨_,_,_,rfl⟩
   have hB:0 < (HT l q W).length:=by rw [HE];exact Nat.mul_pos (by omega) (by omega)
   rw [Px hB]
   have hst:=fun k hk=>@TQ q W k hk
   have hwl:=O4 q W
   (try (simp -implicitDefEqProofs only [go_sem]));repeat' first|(with_reducible first|exact True.intro|refine And.intro ?_ ?_|intro _)|(((with_reducible refine isCall ?_);first|refine AF (c1) rfl ?_ ?_|refine AE (c1) rfl ?_|refine AB (c1) rfl ?_ ?_|refine AG (c1) rfl rfl ?_)<;>try (simp -implicitDefEqProofs only [go_sem]))|(((with_reducible refine AS ?_ ?_)<;>intro _)<;>try (simp -implicitDefEqProofs only [go_sem]))|simp (disch:=omega) only [AC,AH,AP,AJ,AD,AQ,AI,AA]|((with_reducible refine An ?_);refine⟨(_,_),rfl,?_,?_⟩)
   all_goals first|omega|(simp;done)|(simp;omega)|skip
   refine AY (α:=Nat×Bool) (l0:=?l4) (m0:=?m4) (fun x=>[(21,.d (.int .i64 (x.1:Int)))]) (fun x=>[(33,.row 110 1 x.2 (eQ ((Va q W).take x.1)))]) (fun x=>x.1≤q∧x.2=decide (x.1=0)) (fun x=>q - x.1) (0,true) ?h04 ?he4 ?he24 ?hI4 ?step4
   case h04=>(simp -implicitDefEqProofs only [go_sem];rfl)
   case he4=>rfl
   case he24=>rfl
   case' step4=>(rintro⟨k,e⟩ hI;try dsimp only at hI)
   case' hI4=>try dsimp only
   ·exact⟨Nat.zero_le _,rfl⟩
   ·obtain⟨k1,k2⟩:=hI
    change e=decide (k=0) at k2
    subst k2
    by_cases hk:k < q
    ·have hk':(k:Int) < (q:Int):=by omega
     have hwk:IntKind.i64.wrap ((k:Int)+1)=((k+1:Nat):Int):=by rw [AC _ (by omega)];omega
     have c5:=c2 k hk
     have c6:=c3 k
     have hst2:=hst k hk
     rw [Bm] at c6
     (try (simp -implicitDefEqProofs only [go_sem,hk',hwk,hst2]));repeat' first|(with_reducible first|exact True.intro|refine And.intro ?_ ?_|intro _)|(((with_reducible refine isCall ?_);first|refine AF (c5) rfl ?_ ?_|refine AE (c5) rfl ?_|refine AB (c5) rfl ?_ ?_|refine AG (c5) rfl rfl ?_|refine AF (c6) rfl ?_ ?_|refine AE (c6) rfl ?_|refine AB (c6) rfl ?_ ?_|refine AG (c6) rfl rfl ?_)<;>try (simp -implicitDefEqProofs only [go_sem,hk',hwk,hst2]))|(((with_reducible refine AS ?_ ?_)<;>intro _)<;>try (simp -implicitDefEqProofs only [go_sem,hk',hwk,hst2]))|simp (disch:=omega) only [AC,AH,AP,AJ,AD,AQ,AI,AA]|((with_reducible refine An ?_);refine⟨(_,_),rfl,?_,?_⟩)
     all_goals first|omega|(simp;done)|(simp;omega)|skip
     all_goals first|rfl|skip
    ·have hk':¬(k:Int) < (q:Int):=by omega
     have hke:k=q:=by omega
     have hk0:decide (k=0)=false:=decide_eq_false (by omega)
     have htk:(Va q W).take k=Va q W:=List.take_of_length_le (by omega)
     rw [hk0,htk]
     (try (simp -implicitDefEqProofs only [go_sem,hk']));repeat' first|(with_reducible first|exact True.intro|refine And.intro ?_ ?_|intro _)|(((with_reducible refine isCall ?_);first|refine AF (c4) rfl ?_ ?_|refine AE (c4) rfl ?_|refine AB (c4) rfl ?_ ?_|refine AG (c4) rfl rfl ?_)<;>try (simp -implicitDefEqProofs only [go_sem,hk']))|(((with_reducible refine AS ?_ ?_)<;>intro _)<;>try (simp -implicitDefEqProofs only [go_sem,hk']))|simp (disch:=omega) only [AC,AH,AP,AJ,AD,AQ,AI,AA]|((with_reducible refine An ?_);refine⟨(_,_),rfl,?_,?_⟩)
     all_goals first|rfl|omega|(simp;done)|skip
end Go.Pw
end
section
open Go Go.Pw
namespace Go.Pw
set_option linter.unusedSimpArgs false
set_option linter.unusedVariables false
end Go.Pw
end
section
open Go Go.Pw
namespace Go.Pw
set_option linter.unusedSimpArgs false
set_option linter.unusedVariables false
def AX.ok (c:AX):Bool:=c.code.ok && (Ct c.L c.P c.Q && (decide (c.Q * c.L≤32) && (CZ c.mark && (Cj c.seed 1 127 && (Cj c.errs 0 16 && Kd c.code 16)))))
def AX.flat (c:AX) (X:List Int):List Int:=X.flatMap fun x=>c.code.stm x.toNat
def I3 (c:AX) (block:List Int):List Int:=c.mark++c.flat (Ck c.seed block)
def aM (c:AX) (d:List Int):List Int:=if c.ok=true then if spE c.L c.P c.Q d=0 then I3 c (TN c.L c.P c.Q d) else [] else []
def kz (c:AX) (d:List Int):Int:=if c.ok=true then if spE c.L c.P c.Q d=0 then 0 else 51 else 130
noncomputable def Ug (c:AX) (sy:List (Option Nat)):List Int:=k8 c.L c.P c.Q (Ck c.seed (MR sy)) (ni (Y6 sy))
noncomputable def Ql (c:AX) (sy:List (Option Nat)):Int:=lc c.L c.P c.Q (Ck c.seed (MR sy)) (ni (Y6 sy))
def Nq (bits:List Int):Bool:=decide (bits.length≤1000) && Ak bits
noncomputable def UI (c:AX) (bits:List Int):Int:=if c.ok=true then if Nq bits=true then match c.find bits with
 |none=>3
 |some a=>Ql c (c.syL bits a)
 else 131 else 130
noncomputable def Rc (c:AX) (bits:List Int):List Int:=if c.ok=true then if Nq bits=true then match c.find bits with
 |none=>[]
 |some a=>Ug c (c.syL bits a)
 else [] else []
noncomputable def UJ (c:AX) (bits:List Int):Int:=if c.ok=true then if Nq bits=true then match c.find bits with
 |none=>0
 |some a=>if Ql c (c.syL bits a)=0 then a else 0
 else 0 else 0
theorem U5 {α:Type} (a b:List α) (n:Nat):(a++b).drop (a.length+n)=b.drop n:=by
 rw [List.drop_append,List.drop_eq_nil_of_le (by omega),List.nil_append,show a.length+n - a.length=n by omega]
theorem Rn {α:Type} {f:α→List Int} {m:Nat} (hf:∀x,(f x).length=m):∀(l:List α) (i:Nat) (h:i < l.length),((l.flatMap f).drop (i * m)).take m=f l[i]
 |[],_,h=>by cases h
 |x :: l,0,_=>by
  rw [Nat.zero_mul,List.drop_zero,List.flatMap_cons]
  exact List.take_left' (hf x)
 |x :: l,i+1,h=>by
  rw [List.flatMap_cons,show (i+1) * m=(f x).length+i * m by rw [hf,Nat.succ_mul];omega,U5]
  exact Rn hf l i (by simpa using h)
theorem Uo {α:Type} {f:α→List Int} {m:Nat} (hf:∀x,(f x).length=m):∀l:List α,(l.flatMap f).length=l.length * m
 |[]=>by simp
 |x :: l=>by rw [List.flatMap_cons,List.length_append,hf,Uo hf l,List.length_cons,Nat.succ_mul];omega
theorem OD (c:AX) (X:List Int):(c.flat X).length=X.length * c.code.sz:=Uo (fun x=>K8 ..) X
theorem XY (c:AX) (b:List Int):(I3 c b).length=c.mark.length+b.length * c.code.sz:=by
 unfold I3;rw [List.length_append,OD,Db]
theorem bC (c:AX) (X rest:List Int) (i:Nat) (h:i < X.length):c.part (c.mark++c.flat X++rest) 0 i=c.code.stm (X[i]?.getD 0).toNat:=by
 unfold AX.part
 rw [Nat.zero_add,List.append_assoc,U5]
 have h1:=OD c X
 have h2:(i+1) * c.code.sz≤X.length * c.code.sz:=Nat.mul_le_mul_right _ h
 rw [Nat.succ_mul] at h2
 rw [List.drop_append_of_le_length (by rw [h1];omega),List.take_append_of_le_length (by rw [List.length_drop,h1];omega)]
 have:=Rn (f:=fun x:Int=>c.code.stm x.toNat) (fun x=>K8 ..) X i h
 rw [List.getElem?_eq_getElem h]
 exact this
end Go.Pw
end
section
open Go Go.Pw Go.Proofs
namespace Go.Pw
set_option linter.unusedSimpArgs false
set_option linter.unusedVariables false
set_option maxRecDepth 100000
set_option maxHeartbeats 800000
attribute [local congr] Bh A_ A' Ap Bi Av Ax Aw Ao Ah Ab AZ Ar Ac As BI BM BK BL BJ BN BF Af Au Ag BD BQ Ae BG BH BE BB BC A9 BA Aq Ad
attribute [local irreducible] IntKind.wrap A5 Option.getD and or
abbrev GR:=List (H4×Int)
def mc (e:H4×Int):D×D:=(jA e.1,.int .i64 e.2)
def nR (m:GR):List (D×D):=m.map mc
def cG (k:H4):GR→Option Int
 |[]=>none
 |e :: m=>if k=e.1 then some e.2 else cG k m
def lH (k:H4) (v:Int):GR→GR
 |[]=>[(k,v)]
 |e :: m=>if k=e.1 then (e.1,v) :: m else e :: lH k v m
def AU.apW (c:AU) (rec:Int→List Int→GR→Int×GR) (s first:Int) (mark:List Int):Nat→Int→Int→GR→Int×GR
 |0,_,least,m=>(least,m)
 |k+1,w,least,m =>
  let bits:=(Cg c.out.toNat (c.wrd s w)).drop first.toNat
  let n:=min mark.length bits.length
  let r:=rec (c.nxt s w) (mark.drop n) m
  c.apW rec s first mark k (w+1) (min least (CX (mark.take n) bits+r.1)) r.2
def AU.apM (c:AU):Nat→Int→Int→List Int→GR→Int×GR
 |0,_,_,_,m=>(0,m)
 |n+1,s,first,mark,m =>
  if mark=[] then (0,m) else
  match cG (s,mark.length) m with
  |some v=>if first=0 then (v,m) else c.apW (fun s' mk m'=>c.apM n s' 0 mk m') s first mark c.W 0 16 m
  |none=>let r:=c.apW (fun s' mk m'=>c.apM n s' 0 mk m') s first mark c.W 0 16 m
   if first=0 then (r.1,lH (s,mark.length) r.1 r.2) else r
def ne (m:GR):Prop:=∀e,e∈m→0≤e.2∧e.2≤16
theorem L2:∀(xs ys:List Int),0≤CX xs ys∧CX xs ys≤xs.length
 |[],_=>by simp [CX]
 |_ :: _,[]=>by simp [CX];omega
 |x :: xs,y :: ys=>by
  have:=L2 xs ys
  simp only [CX,List.length_cons]
  split<;>omega
theorem FV {xs:List Int} (h:Ak xs=true) (n:Nat):Ak (xs.take n)=true:=by
 simp only [Ak,List.all_eq_true] at *
 exact fun x hx=>h x (List.mem_of_mem_take hx)
theorem AU.W_eq' (c:AU):(c.W:Int)=2 ^ c.bits.toNat:=by simp [AU.W]
abbrev nj:MS:=(true,[some .i64,some .i64])
end Go.Pw
end

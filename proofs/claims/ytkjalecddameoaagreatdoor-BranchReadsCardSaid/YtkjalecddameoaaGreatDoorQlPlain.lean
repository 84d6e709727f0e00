/- Texts in plain terms, seat 2: numbers, rows, parts between a byte, the check, a digit that was changed. -/
import Derived.Test.YtkjalecddameoaaGreatDoorQhLib
import Derived.Test.YtkjalecddameoaaGreatDoorQePlain
set_option linter.all false
namespace Go.Pv
open Go Go.RowKit Go.Proofs
theorem decF_small {k u:Nat} (h:u < 10):decF (k + 1) u = [UInt8.ofNat (48 + u)]:=by
 unfold decF;rw [if_pos h]
theorem decF_big {u:Nat} (h:10 ≤ u) (h2:u < 10 ^ 20):decF 20 u = decF 20 (u / 10) ++ [UInt8.ofNat (48 + u % 10)]:=by
 have e:decF 20 u = decF 19 (u / 10) ++ [UInt8.ofNat (48 + u % 10)]:=by
  show (if u < 10 then _ else _) = _
  rw [if_neg (by omega)]
 rw [e,decF_eq 18 (u / 10) (by omega),decF_eq 19 (u / 10) (by omega)]
theorem itoa_a {n:Int} (h0:-10 < n) (h1:n < 0):itoaF n = [45,UInt8.ofNat (48 - n).toNat]:=by
 unfold itoaF
 rw [if_pos h1,decF_small (by omega)]
 congr 3;omega
theorem tdv_neg {n:Int} (h:n ≤ 0):n.tdiv 10 = -((-n) / 10):=by
 have e:n = -(-n):=by omega
 rw [e,Int.neg_tdiv,Int.tdiv_eq_ediv_of_nonneg (by omega),Int.neg_neg]
theorem tmd_neg {n:Int} (h:n ≤ 0):n.tmod 10 = -((-n) % 10):=by
 have e:n = -(-n):=by omega
 rw [e,Int.neg_tmod,Int.tmod_eq_emod_of_nonneg (by omega),Int.neg_neg]
theorem tdv_pos {n:Int} (h:0 ≤ n):n.tdiv 10 = n / 10:=Int.tdiv_eq_ediv_of_nonneg h
theorem tmd_pos {n:Int} (h:0 ≤ n):n.tmod 10 = n % 10:=Int.tmod_eq_emod_of_nonneg h
theorem itoa_b {n:Int} (h0:n ≤ -10) (h1:-1000000 < n):itoaF n = itoaF (n.tdiv 10) ++ [UInt8.ofNat (48 - n.tmod 10).toNat]:=by
 have e1:n.tdiv 10 = -((n.natAbs / 10:Nat):Int):=by rw [tdv_neg (by omega)];omega
 have e2:n.tmod 10 = -((n.natAbs % 10:Nat):Int):=by rw [tmd_neg (by omega)];omega
 unfold itoaF
 rw [if_pos (by omega),if_pos (by omega),decF_big (by omega) (by omega),e2]
 have e3:(n.tdiv 10).natAbs = n.natAbs / 10:=by omega
 rw [e3,List.cons_append]
 congr 4;omega
theorem itoa_c {n:Int} (h0:0 ≤ n) (h1:n < 10):itoaF n = [UInt8.ofNat (48 + n).toNat]:=by
 unfold itoaF
 rw [if_neg (by omega),decF_small (by omega)]
 congr 2
 omega
theorem itoa_d {n:Int} (h0:10 ≤ n) (h1:n < 1000000):itoaF n = itoaF (n.tdiv 10) ++ [UInt8.ofNat (48 + n.tmod 10).toNat]:=by
 have e1:n.tdiv 10 = ((n.toNat / 10:Nat):Int):=by rw [tdv_pos (by omega)];omega
 have e2:n.tmod 10 = ((n.toNat % 10:Nat):Int):=by rw [tmd_pos (by omega)];omega
 unfold itoaF
 rw [if_neg (by omega),if_neg (by omega),decF_big (by omega) (by omega),e2]
 have e3:(n.tdiv 10).toNat = n.toNat / 10:=by omega
 rw [e3]
 congr 3
theorem itoa_len:∀ (k:Nat) (n:Int),n.natAbs < 10 ^ (k + 1)→k ≤ 5→(itoaF n).length ≤ k + 2
 | 0,n,h,_=>by
  have h:n.natAbs < 10:=by simpa using h
  by_cases h0:n < 0
  ·rw [itoa_a (by omega) h0];simp
  ·rw [itoa_c (by omega) (by omega)];simp
 | k + 1,n,h,hk=>by
  have h6:10 ^ (k + 1 + 1) ≤ 10 ^ 6:=Nat.pow_le_pow_right (by decide) (by omega)
  have h10:10 ^ (k + 1 + 1) = 10 ^ (k + 1) * 10:=Nat.pow_succ ..
  by_cases h0:n < 0
  ·by_cases h1:-10 < n
   ·rw [itoa_a h1 h0];simp
   ·have:=itoa_len k (n.tdiv 10) (by rw [tdv_neg (by omega)];omega) (by omega)
    rw [itoa_b (by omega) (by omega)]
    rw [List.length_append]
    simp only [List.length_cons,List.length_nil]
    omega
  ·by_cases h1:n < 10
   ·rw [itoa_c (by omega) h1];simp
   ·have:=itoa_len k (n.tdiv 10) (by rw [tdv_pos (by omega)];omega) (by omega)
    rw [itoa_d (by omega) (by omega)]
    rw [List.length_append]
    simp only [List.length_cons,List.length_nil]
    omega
def rowF (w:List UInt8) (ns:List Int):List UInt8:=ns.foldl (fun a n=>a ++ 32 :: itoaF n) w
def sumR (m:Nat):Nat→List UInt8→Nat
 | _,[]=>0
 | k,b :: r=>b.toNat * (k + 1) * m + sumR m (k + 1) r
def sumS:Nat→List (List UInt8)→Nat
 | _,[]=>0
 | i,r :: R=>sumR (i + 1) 0 r + sumS (i + 1) R
def digF (d:Nat):List UInt8:=itoaF ((d / 100:Nat):Int) ++ (itoaF ((d / 10 % 10:Nat):Int) ++ itoaF ((d % 10:Nat):Int))
def linesF (R:List (List UInt8)):List UInt8:=R.flatMap fun r=>r ++ [10]
def sealF (R:List (List UInt8)):List UInt8:=linesF R ++ (101 :: 110 :: 100 :: 32 :: (digF (sumS 0 R % 223) ++ [10]))
def splA (c:UInt8):List UInt8→List UInt8→List (List UInt8)
 | acc,[]=>[acc]
 | acc,b :: s=>if b = c then acc :: splA c [] s else splA c (acc ++ [b]) s
def splF (c:UInt8) (s:List UInt8):List (List UInt8):=splA c [] s
def addH (a:List UInt8):List (List UInt8)→List (List UInt8)
 | []=>[]
 | r :: R=>(a ++ r) :: R
theorem splA_lib (c:UInt8):∀ (s acc:List UInt8),splA c acc s = addH acc (Lib.split s [c])
 | [],acc=>by
  have e:Lib.split [] [c] = [[]]:=rfl
  rw [e]
  show [acc] = [acc ++ []]
  rw [List.append_nil]
 | b :: s,acc=>by
  have hne:([c]:List UInt8) ≠ []:=fun e=>by cases e
  unfold splA
  by_cases hb:b = c
  ·subst hb
   rw [if_pos rfl,splA_lib b s []]
   have hi:Lib.index (b :: s) [b] = (0:Nat):=by
    unfold Lib.index
    rw [if_pos (by simp)];rfl
   have hc:=Lib.count_hit hne hi
   have e:Lib.split (b :: s) [b] = [] :: Lib.split s [b]:=by
    unfold Lib.split
    rw [hc,Nat.add_comm 1,Lib.splitK,hi]
    rfl
   rw [e]
   cases Lib.split s [b] with
   | nil=>show [acc] = [acc ++ []];rw [List.append_nil]
   | cons r R=>show acc :: _ = (acc ++ []) :: _;rw [List.append_nil];rfl
  ·rw [if_neg hb,splA_lib c s (acc ++ [b])]
   have hpf:([c].isPrefixOf (b :: s)) = false:=by simp [List.isPrefixOf];exact fun e=>hb e.symm
   have hge:=Lib.index_ge s [c]
   rcases Int.lt_or_le (Lib.index s [c]) 0 with hn | hp
   ·have h1:Lib.index s [c] = -1:=by omega
    have h2:Lib.index (b :: s) [c] = -1:=by
     unfold Lib.index
     rw [hpf,h1];rfl
    have e1:Lib.split s [c] = [s]:=by unfold Lib.split;rw [Lib.count_miss h1];rfl
    have e2:Lib.split (b :: s) [c] = [b :: s]:=by unfold Lib.split;rw [Lib.count_miss h2];rfl
    rw [e1,e2]
    show [acc ++ [b] ++ s] = [acc ++ b :: s]
    simp
   ·obtain ⟨i,hi⟩:∃ i:Nat,Lib.index s [c] = i:=⟨(Lib.index s [c]).toNat,by omega⟩
    have h2:Lib.index (b :: s) [c] = ((i + 1:Nat):Int):=by
     unfold Lib.index
     have:((i:Int) == -1) = false:=by rw [beq_eq_false_iff_ne];omega
     rw [hpf,hi,this];rfl
    have m1:((i:Int) == -1) = false:=by rw [beq_eq_false_iff_ne];omega
    have m2:(((i + 1:Nat):Int) == -1) = false:=by rw [beq_eq_false_iff_ne];omega
    have e1:Lib.split s [c] = s.take i :: Lib.splitK [c] 0 (Lib.count (s.drop (i + 1)) [c]) (s.drop (i + 1)):=by
     unfold Lib.split
     rw [Lib.count_hit hne hi,Nat.add_comm 1,Lib.splitK,hi,m1]
     rfl
    have e2:Lib.split (b :: s) [c] = (b :: s.take i) :: Lib.splitK [c] 0 (Lib.count (s.drop (i + 1)) [c]) (s.drop (i + 1)):=by
     unfold Lib.split
     rw [Lib.count_hit hne h2,Nat.add_comm 1,Lib.splitK,h2,m2]
     rfl
    rw [e1,e2]
    show (acc ++ [b] ++ s.take i) :: _ = (acc ++ b :: s.take i) :: _
    simp
theorem lib_split (c:UInt8) (s:List UInt8):Lib.split s [c] = splF c s:=by
 unfold splF
 rw [splA_lib]
 cases Lib.split s [c] <;> rfl
theorem splA_free {c:UInt8}:∀ {r acc:List UInt8},(∀ b ∈ r,b ≠ c)→splA c acc r = [acc ++ r]
 | [],acc,_=>by rw [List.append_nil];rfl
 | b :: r,acc,h=>by
  unfold splA
  rw [if_neg (h b (by simp)),splA_free (fun x hx=>h x (by simp [hx]))]
  simp
theorem splA_app {c:UInt8} {s:List UInt8}:∀ {r acc:List UInt8},(∀ b ∈ r,b ≠ c)→splA c acc (r ++ c :: s) = (acc ++ r) :: splA c [] s
 | [],acc,_=>by
  show splA c acc (c :: s) = _
  rw [splA,if_pos rfl,List.append_nil]
 | b :: r,acc,h=>by
  show splA c acc (b :: (r ++ c :: s)) = _
  rw [splA,if_neg (h b (by simp)),splA_app (fun x hx=>h x (by simp [hx]))]
  simp
theorem splA_len (c:UInt8):∀ (s acc:List UInt8),1 ≤ (splA c acc s).length∧(splA c acc s).length ≤ s.length + 1
 | [],acc=>⟨Nat.le_refl _,Nat.le_refl _⟩
 | b :: s,acc=>by
  unfold splA
  split
  ·have:=splA_len c s []
   simp only [List.length_cons];omega
  ·have:=splA_len c s (acc ++ [b])
   simp only [List.length_cons];omega
theorem splF_len (c:UInt8) (s:List UInt8):1 ≤ (splF c s).length∧(splF c s).length ≤ s.length + 1:=splA_len c s []
theorem splA_each (c:UInt8):∀ (s acc:List UInt8),∀ r ∈ splA c acc s,r.length ≤ acc.length + s.length
 | [],acc,r,h=>by
  simp only [splA,List.mem_singleton] at h
  subst h;simp
 | b :: s,acc,r,h=>by
  unfold splA at h
  split at h
  ·rcases List.mem_cons.1 h with rfl | h
   ·simp
   ·have:=splA_each c s [] r h
    simp only [List.length_cons,List.length_nil] at this ⊢;omega
  ·have:=splA_each c s (acc ++ [b]) r h
   simp only [List.length_append,List.length_cons,List.length_nil] at this ⊢;omega
theorem splF_each {c:UInt8} {s r:List UInt8} (h:r ∈ splF c s):r.length ≤ s.length:=by
 have:=splA_each c s [] r h
 simpa using this
theorem splF_lines {t:List UInt8}:∀ (R:List (List UInt8)),(∀ r ∈ R,∀ b ∈ r,b ≠ 10)→splF 10 (linesF R ++ t) = R ++ splF 10 t
 | [],_=>rfl
 | r :: R,h=>by
  have e:linesF (r :: R) ++ t = r ++ 10 :: (linesF R ++ t):=by
   show r ++ [10] ++ linesF R ++ t = _
   simp
  unfold splF at *
  rw [e,splA_app (h r (by simp))]
  have:=splF_lines (t:=t) R (fun x hx=>h x (by simp [hx]))
  unfold splF at this
  rw [this];rfl
def isDig (b:UInt8):Bool:=Nat.ble 48 b.toNat && Nat.ble b.toNat 57
theorem isDig_iff {b:UInt8}:isDig b = true↔48 ≤ b.toNat∧b.toNat ≤ 57:=by unfold isDig;simp
def digA:Nat→List UInt8→Option Nat
 | n,[]=>some n
 | n,b :: s=>if isDig b = true then digA (10 * n + (b.toNat - 48)) s else none
theorem digA_lt:∀ {s:List UInt8} {n m k:Nat},digA n s = some m→n < 10 ^ k→m < 10 ^ (k + s.length)
 | [],n,m,k,h,hn=>by cases h;simpa using hn
 | b :: s,n,m,k,h,hn=>by
  unfold digA at h
  split at h <;> try (cases h;done)
  rename_i hb
  unfold isDig at hb
  have h2:b.toNat ≤ 57:=by simp at hb;exact hb.2
  have:=digA_lt (k:=k + 1) h (by rw [Nat.pow_succ];omega)
  rw [List.length_cons,show k + (s.length + 1) = k + 1 + s.length by omega]
  exact this
theorem itoa_bytes (n:Int) (h:n.natAbs < 1000000):∀ b ∈ itoaF n,b ≠ 10∧b ≠ 32:=by
 have key:∀ (k:Nat) (n:Int),n.natAbs < 10 ^ (k + 1)→k ≤ 5→∀ b ∈ itoaF n,b ≠ 10∧b ≠ 32:=by
  have dig:∀ m:Int,0 ≤ m→m < 10→UInt8.ofNat (48 + m).toNat ≠ 10∧UInt8.ofNat (48 + m).toNat ≠ 32:=fun m h0 h1=>by
   have:∀ k:Fin 10,UInt8.ofNat (48 + (k.val:Int)).toNat ≠ 10∧UInt8.ofNat (48 + (k.val:Int)).toNat ≠ 32:=by decide
   have:=this ⟨m.toNat,by omega⟩
   have e:((m.toNat:Nat):Int) = m:=by omega
   simpa [e] using this
  intro k
  induction k with
  | zero =>
   intro n h _ b hb
   have h:n.natAbs < 10:=by simpa using h
   by_cases h0:n < 0
   ·rw [itoa_a (by omega) h0] at hb
    simp only [List.mem_cons,List.not_mem_nil,or_false] at hb
    rcases hb with rfl | rfl
    ·decide
    ·have:=dig (-n) (by omega) (by omega);rw [← Int.sub_eq_add_neg] at this;exact this
   ·rw [itoa_c (by omega) (by omega)] at hb
    simp only [List.mem_cons,List.not_mem_nil,or_false] at hb
    subst hb
    exact dig n (by omega) (by omega)
  | succ k ih =>
   intro n h hk b hb
   have h6:10 ^ (k + 1 + 1) ≤ 10 ^ 6:=Nat.pow_le_pow_right (by decide) (by omega)
   have h10:10 ^ (k + 1 + 1) = 10 ^ (k + 1) * 10:=Nat.pow_succ ..
   by_cases h0:n < 0
   ·by_cases h1:-10 < n
    ·rw [itoa_a h1 h0] at hb
     simp only [List.mem_cons,List.not_mem_nil,or_false] at hb
     rcases hb with rfl | rfl
     ·decide
     ·have:=dig (-n) (by omega) (by omega);rw [← Int.sub_eq_add_neg] at this;exact this
    ·rw [itoa_b (by omega) (by omega)] at hb
     have e2:=tmd_neg (n:=n) (by omega)
     rcases List.mem_append.1 hb with hb | hb
     ·exact ih _ (by rw [tdv_neg (by omega)];omega) (by omega) b hb
     ·simp only [List.mem_cons,List.not_mem_nil,or_false] at hb
      subst hb
      have:=dig (-(n.tmod 10)) (by omega) (by omega)
      rw [← Int.sub_eq_add_neg] at this;exact this
   ·by_cases h1:n < 10
    ·rw [itoa_c (by omega) h1] at hb
     simp only [List.mem_cons,List.not_mem_nil,or_false] at hb
     subst hb
     exact dig n (by omega) (by omega)
    ·rw [itoa_d (by omega) (by omega)] at hb
     have e2:=tmd_pos (n:=n) (by omega)
     rcases List.mem_append.1 hb with hb | hb
     ·exact ih _ (by rw [tdv_pos (by omega)];omega) (by omega) b hb
     ·simp only [List.mem_cons,List.not_mem_nil,or_false] at hb
      subst hb
      exact dig (n.tmod 10) (by omega) (by omega)
 exact key 5 n h (Nat.le_refl _)
theorem rowF_flat:∀ (ns:List Int) (w:List UInt8),rowF w ns = w ++ ns.flatMap fun n=>32 :: itoaF n
 | [],w=>by simp [rowF]
 | n :: ns,w=>by
  show rowF (w ++ 32 :: itoaF n) ns = _
  rw [rowF_flat ns]
  simp
theorem splF_row:∀ (ns:List Int) (w acc:List UInt8),(∀ b ∈ w,b ≠ 32)→(∀ n ∈ ns,n.natAbs < 1000000)→splA 32 acc (rowF w ns) = (acc ++ w) :: ns.map itoaF
 | [],w,acc,hw,_=>by
  show splA 32 acc w = _
  rw [splA_free hw];rfl
 | n :: ns,w,acc,hw,h=>by
  rw [rowF_flat]
  show splA 32 acc (w ++ 32 :: (itoaF n ++ ns.flatMap fun n=>32 :: itoaF n)) = _
  rw [splA_app hw,← rowF_flat,splF_row ns (itoaF n) [] (fun b hb=>(itoa_bytes n (h n (by simp)) b hb).2) (fun m hm=>h m (by simp [hm]))]
  rfl
theorem rowF_lines (w:List UInt8) (ns:List Int) (hw:∀ b ∈ w,b ≠ 10) (h:∀ n ∈ ns,n.natAbs < 1000000):∀ b ∈ rowF w ns,b ≠ 10:=by
 intro b hb
 rw [rowF_flat] at hb
 rcases List.mem_append.1 hb with hb | hb
 ·exact hw b hb
 ·obtain ⟨n,hn,hb⟩:=List.mem_flatMap.1 hb
  rcases List.mem_cons.1 hb with rfl | hb
  ·decide
  ·exact (itoa_bytes n (h n hn) b hb).1
def endR (R:List (List UInt8)):List UInt8:=101 :: 110 :: 100 :: 32 :: digF (sumS 0 R % 223)
theorem endR_lines (R:List (List UInt8)):∀ b ∈ endR R,b ≠ 10:=by
 have hlt:sumS 0 R % 223 < 223:=Nat.mod_lt _ (by decide)
 intro b hb
 unfold endR digF at hb
 simp only [List.mem_cons,List.mem_append] at hb
 rcases hb with rfl | rfl | rfl | rfl | hb | hb | hb
 ·decide
 ·decide
 ·decide
 ·decide
 ·exact (itoa_bytes _ (by omega) b hb).1
 ·exact (itoa_bytes _ (by omega) b hb).1
 ·exact (itoa_bytes _ (by omega) b hb).1
theorem splF_seal (R:List (List UInt8)) (h:∀ r ∈ R,∀ b ∈ r,b ≠ 10):splF 10 (sealF R) = R ++ [endR R,[]]:=by
 unfold sealF
 rw [splF_lines R h]
 congr 1
 show splF 10 (endR R ++ 10 :: []) = _
 unfold splF
 rw [splA_app (endR_lines R)]
 rfl
theorem lines_len (k:Nat):∀ (R:List (List UInt8)),(∀ r ∈ R,r.length ≤ k)→(linesF R).length ≤ (k + 1) * R.length
 | [],_=>Nat.le_refl _
 | r :: R,h=>by
  have h1:=lines_len k R (fun x hx=>h x (by simp [hx]))
  have h2:=h r (by simp)
  show (r ++ [10] ++ linesF R).length ≤ _
  simp only [List.length_append,List.length_cons,List.length_nil]
  rw [Nat.mul_succ]
  omega
theorem dig_len (d:Nat) (h:d < 223):(digF d).length ≤ 6:=by
 have h1:=itoa_len 0 ((d / 100:Nat):Int) (by omega) (by decide)
 have h2:=itoa_len 0 ((d / 10 % 10:Nat):Int) (by omega) (by decide)
 have h3:=itoa_len 0 ((d % 10:Nat):Int) (by omega) (by decide)
 unfold digF
 simp only [List.length_append]
 omega
theorem splA_set {c:UInt8} {b:UInt8} (hb:b ≠ c) (q:List UInt8):∀ (p acc:List UInt8),∃ (P:List (List UInt8)) (x y:List UInt8) (Q:List (List UInt8)),splA c acc (p ++ b :: q) = P ++ (x ++ b :: y) :: Q∧∀ d,d ≠ c→splA c acc (p ++ d :: q) = P ++ (x ++ d :: y) :: Q
 | [],acc=>by
  obtain ⟨y,Q,hq⟩:∃ y Q,Lib.split q [c] = y :: Q:=by
   have:=splF_len c q
   rw [← lib_split] at this
   cases h:Lib.split q [c] with
   | nil=>rw [h] at this;simp at this
   | cons y Q=>exact ⟨y,Q,rfl⟩
  have key:∀ d,d ≠ c→splA c acc (d :: q) = (acc ++ d :: y) :: Q:=fun d hd=>by
   rw [splA,if_neg hd,splA_lib,hq]
   show (acc ++ [d] ++ y) :: Q = _
   simp
  exact ⟨[],acc,y,Q,key b hb,fun d hd=>key d hd⟩
 | a :: p,acc=>by
  by_cases ha:a = c
  ·obtain ⟨P,x,y,Q,h1,h2⟩:=splA_set hb q p []
   refine ⟨acc :: P,x,y,Q,?_,fun d hd=>?_⟩
   ·show splA c acc (a :: (p ++ b :: q)) = _
    rw [splA,if_pos ha,h1];rfl
   ·show splA c acc (a :: (p ++ d :: q)) = _
    rw [splA,if_pos ha,h2 d hd];rfl
  ·obtain ⟨P,x,y,Q,h1,h2⟩:=splA_set hb q p (acc ++ [a])
   refine ⟨P,x,y,Q,?_,fun d hd=>?_⟩
   ·show splA c acc (a :: (p ++ b :: q)) = _
    rw [splA,if_neg ha,h1]
   ·show splA c acc (a :: (p ++ d :: q)) = _
    rw [splA,if_neg ha,h2 d hd]
theorem sumR_app (m:Nat) (y:List UInt8):∀ (x:List UInt8) (k:Nat),sumR m k (x ++ y) = sumR m k x + sumR m (k + x.length) y
 | [],k=>by simp [sumR]
 | b :: x,k=>by
  show b.toNat * (k + 1) * m + sumR m (k + 1) (x ++ y) = b.toNat * (k + 1) * m + sumR m (k + 1) x + _
  rw [sumR_app m y x (k + 1),List.length_cons,show k + 1 + x.length = k + (x.length + 1) by omega,Nat.add_assoc]
theorem sumS_app (Y:List (List UInt8)):∀ (X:List (List UInt8)) (k:Nat),sumS k (X ++ Y) = sumS k X + sumS (k + X.length) Y
 | [],k=>by simp [sumS]
 | b :: x,k=>by
  show sumR (k + 1) 0 b + sumS (k + 1) (x ++ Y) = sumR (k + 1) 0 b + sumS (k + 1) x + _
  rw [sumS_app Y x (k + 1),List.length_cons,show k + 1 + x.length = k + (x.length + 1) by omega,Nat.add_assoc]
theorem dig_inj {a b:Nat} (ha:a < 223) (hb:b < 223) (h:digF a = digF b):a = b:=by
 have key:∀ k:Fin 223,((digF k.val).foldl (fun n c=>10 * n + (c.toNat - 48)) 0) = k.val:=by decide +kernel
 have h1:=key ⟨a,ha⟩
 have h2:=key ⟨b,hb⟩
 rw [h] at h1
 exact h1.symm.trans h2
theorem no_zero {d u v:Nat} (hd:0 < d) (hd2:d < 223) (hu:0 < u) (hu2:u < 223) (hv:0 < v) (hv2:v < 223):¬ 223 ∣ d * u * v:=by
 have key:∀ k:Fin 223,0 < k.val→Nat.gcd 223 k.val = 1:=by decide +kernel
 intro h
 have h1:Nat.Coprime 223 v:=key ⟨v,hv2⟩ hv
 have h2:Nat.Coprime 223 u:=key ⟨u,hu2⟩ hu
 have h3:=h2.dvd_of_dvd_mul_right (h1.dvd_of_dvd_mul_right h)
 exact absurd (Nat.le_of_dvd hd h3) (by omega)
theorem sum_ne {b d:UInt8} (hb:isDig b = true) (hd:isDig d = true) (hne:b ≠ d) (P Q:List (List UInt8)) (x y:List UInt8) (hx:x.length < 222) (hP:P.length < 222) :
 sumS 0 (P ++ (x ++ b :: y) :: Q) % 223 ≠ sumS 0 (P ++ (x ++ d :: y) :: Q) % 223:=by
 have form:∀ c:UInt8,sumS 0 (P ++ (x ++ c :: y) :: Q) = c.toNat * (x.length + 1) * (P.length + 1) + (sumS 0 P + sumR (P.length + 1) 0 x + sumR (P.length + 1) (x.length + 1) y + sumS (P.length + 1) Q):=fun c=>by
  rw [sumS_app]
  show _ + (sumR (0 + P.length + 1) 0 (x ++ c :: y) + sumS (0 + P.length + 1) Q) = _
  rw [sumR_app]
  show _ + (_ + (c.toNat * (0 + x.length + 1) * (0 + P.length + 1) + sumR (0 + P.length + 1) (0 + x.length + 1) y) + _) = _
  simp only [Nat.zero_add]
  omega
 rw [form b,form d]
 generalize sumS 0 P + sumR (P.length + 1) 0 x + sumR (P.length + 1) (x.length + 1) y + sumS (P.length + 1) Q = r
 intro h
 have bd:∀ c:UInt8,isDig c = true→48 ≤ c.toNat∧c.toNat ≤ 57:=fun c hc=>by unfold isDig at hc;simpa using hc
 have h1:=bd b hb
 have h2:=bd d hd
 have hn:b.toNat ≠ d.toNat:=fun e=>hne (UInt8.toNat_inj.1 e)
 have sub:∀ m n:Nat,n < m→m ≤ 57→48 ≤ n→(m * (x.length + 1) * (P.length + 1) + r) % 223 = (n * (x.length + 1) * (P.length + 1) + r) % 223→False:=fun m n hmn hm hn' e=>by
  obtain ⟨k,rfl⟩:∃ k,m = n + k:=⟨m - n,by omega⟩
  have e1:(n + k) * (x.length + 1) * (P.length + 1) + r = k * (x.length + 1) * (P.length + 1) + (n * (x.length + 1) * (P.length + 1) + r):=by
   rw [Nat.add_mul,Nat.add_mul];omega
  rw [e1] at e
  generalize n * (x.length + 1) * (P.length + 1) + r = q at e
  have:223 ∣ k * (x.length + 1) * (P.length + 1):=by
   generalize k * (x.length + 1) * (P.length + 1) = z at e ⊢
   omega
  exact no_zero (by omega) (by omega) (by omega) (by omega) (by omega) (by omega) this
 rcases Nat.lt_or_gt_of_ne hn with h3 | h3
 ·exact sub _ _ h3 h2.2 h1.1 h.symm
 ·exact sub _ _ h3 h1.2 h2.1 h
theorem dig_ne {b:UInt8} (h:isDig b = true):b ≠ 10:=fun e=>by subst e;cases h
theorem seal_spoilt {R R':List (List UInt8)} {p q:List UInt8} {b d:UInt8} (hR:∀ r ∈ R,∀ c ∈ r,c ≠ 10) (hR':∀ r ∈ R',∀ c ∈ r,c ≠ 10) (hl:∀ r ∈ R,r.length < 222) (hn:R.length < 222) (hb:isDig b = true) (hd:isDig d = true) (hne:b ≠ d)
 (h1:sealF R = p ++ b :: q) (h2:sealF R' = p ++ d :: q):False:=by
 have e1:=splF_seal R hR
 have e2:=splF_seal R' hR'
 obtain ⟨P,x,y,Q,a1,a2⟩:=splA_set (dig_ne hb) q p []
 have a2:=a2 d (dig_ne hd)
 unfold splF at e1 e2
 rw [h1,a1] at e1
 rw [h2,a2] at e2
 have n1:R.length = R'.length:=by
  have l1:=congrArg List.length e1
  have l2:=congrArg List.length e2
  simp only [List.length_append,List.length_cons,List.length_nil] at l1 l2
  omega
 have hQ:P.length + 1 + Q.length = R.length + 2:=by
  have l1:=congrArg List.length e1
  simp only [List.length_append,List.length_cons,List.length_nil] at l1
  omega
 by_cases hc1:P.length < R.length
 ·obtain ⟨Q0,t0,t1,rfl⟩:∃ Q0 t0 t1,Q = Q0 ++ [t0,t1]:=by
   refine ⟨Q.take (Q.length - 2),Q[Q.length - 2],Q[Q.length - 1],?_⟩
   have hs:Q.drop (Q.length - 2) = [Q[Q.length - 2],Q[Q.length - 1]]:=by
    rw [List.drop_eq_getElem_cons (by omega),List.drop_eq_getElem_cons (by omega),List.drop_eq_nil_of_le (by omega)]
    congr 2
    congr 1
    omega
   rw [← hs,List.take_append_drop]
  have f1:(P ++ (x ++ b :: y) :: Q0) ++ [t0,t1] = R ++ [endR R,[]]:=by rw [← e1];simp
  have f2:(P ++ (x ++ d :: y) :: Q0) ++ [t0,t1] = R' ++ [endR R',[]]:=by rw [← e2];simp
  obtain ⟨g1,g2⟩:=List.append_inj f1 (by simp at hQ ⊢;omega)
  obtain ⟨g3,g4⟩:=List.append_inj f2 (by simp at hQ ⊢;omega)
  have g5:endR R = endR R':=by
   have u1:=(List.cons.inj g2).1
   have u2:=(List.cons.inj g4).1
   rw [← u1,← u2]
  unfold endR at g5
  have g6:digF (sumS 0 R % 223) = digF (sumS 0 R' % 223):=by simpa using g5
  have g7:=dig_inj (Nat.mod_lt _ (by decide)) (Nat.mod_lt _ (by decide)) g6
  have hx:=hl (x ++ b :: y) (by rw [← g1];simp)
  rw [List.length_append,List.length_cons] at hx
  rw [← g1,← g3] at g7
  exact sum_ne hb hd hne P Q0 x y (by omega) (by omega) g7
 ·by_cases hc2:P.length = R.length
  ·obtain ⟨g1,g2⟩:=List.append_inj e1 hc2
   obtain ⟨g3,g4⟩:=List.append_inj e2 (hc2.trans n1)
   have u1:=(List.cons.inj g2).1
   have u2:=(List.cons.inj g4).1
   rw [← g1,g3,← u2] at u1
   have:=List.append_cancel_left u1
   exact hne (List.cons.inj this).1
  ·have hP:P.length = R.length + 1:=by omega
   have h5:(P ++ (x ++ b :: y) :: Q)[P.length]? = some (x ++ b :: y):=by simp
   rw [e1,hP,List.getElem?_append_right (by omega)] at h5
   simp at h5
end Go.Pv
namespace Go.Pv
open Go Go.RowKit Go.Proofs
def stW:List UInt8:=[115,116,111,114,121]
def scW:List UInt8:=[115,99,101,110,101]
def baW:List UInt8:=[98,97,116,116,108,101]
def ruW:List UInt8:=[114,117,108,101]
def markW (x:Sn):UInt8:=if x.formula = true then 33 else 45
def snW (x:Sn):List UInt8:=if x.loose = true then baW else scW
def snNs (x:Sn):List Int:=[x.part,x.least,x.most]
def snR (x:Sn):List UInt8:=rowF (snW x) (snNs x) ++ [32,markW x]
def rlR (r:Rl):List UInt8:=rowF ruW (r.frm :: r.to)
def rowsB (e:Int) (sc:List Sn) (rl:List Rl):List (List UInt8):=rowF stW [e] :: (sc.map snR ++ rl.map rlR)
def textB (e:Int) (sc:List Sn) (rl:List Rl):List UInt8:=sealF (rowsB e sc rl)
def thrN (n:Int):Bool:=decide (0 ≤ n) && decide (n < 1000)
theorem thr_iff {n:Int}:thrN n = true↔0 ≤ n∧n < 1000:=by unfold thrN;simp
structure ThrB (e:Int) (sc:List Sn) (rl:List Rl):Prop where
 he:0 ≤ e∧e < 1000
 hs:∀ x ∈ sc,∀ n ∈ snNs x,0 ≤ n∧n < 1000
 hr:∀ r ∈ rl,∀ n ∈ r.frm :: r.to,0 ≤ n∧n < 1000
def numU (w:List UInt8):Option Int:=if w.length = 0 ∨ 3 < w.length then none else
 match digA 0 w with
 | none=>none
 | some n=>if itoaF (n:Int) = w then some (n:Int) else none
def numsU:List (List UInt8)→Option (List Int)
 | []=>some []
 | w :: ws=>match numU w,numsU ws with
  | some n,some l=>some (n :: l)
  | _,_=>none
theorem numU_small {w:List UInt8} {n:Int} (h:numU w = some n):(0 ≤ n∧n < 1000)∧itoaF n = w:=by
 unfold numU at h
 split at h <;> try (cases h;done)
 rename_i hl
 split at h <;> try (cases h;done)
 rename_i m hm
 split at h <;> cases h
 rename_i hi
 have h1:=digA_lt (k:=0) hm (by decide)
 have h3:10 ^ (0 + w.length) ≤ 10 ^ 3:=Nat.pow_le_pow_right (by decide) (by omega)
 exact ⟨⟨by omega,by omega⟩,hi⟩
theorem numsU_small:∀ {ws:List (List UInt8)} {l:List Int},numsU ws = some l→l.length = ws.length∧∀ n ∈ l,0 ≤ n∧n < 1000
 | [],l,h=>by cases h;exact ⟨rfl,fun n hn=>by cases hn⟩
 | w :: ws,l,h=>by
  unfold numsU at h
  split at h <;> try (cases h;done)
  rename_i n l' h1 h2
  cases h
  obtain ⟨a,b⟩:=numsU_small h2
  refine ⟨by simp [a],fun m hm=>?_⟩
  rcases List.mem_cons.1 hm with rfl | hm
  ·exact (numU_small h1).1
  ·exact b m hm
theorem numU_itoa (n:Int) (h:0 ≤ n∧n < 1000):numU (itoaF n) = some n:=by
 have key:∀ k:Fin 1000,numU (itoaF (k.val:Int)) = some (k.val:Int):=by decide +kernel
 have:=key ⟨n.toNat,by omega⟩
 have e:((n.toNat:Nat):Int) = n:=by omega
 rw [show ((⟨n.toNat,by omega⟩:Fin 1000).val:Int) = n from e] at this
 exact this
theorem numsU_itoa:∀ (ns:List Int),(∀ n ∈ ns,0 ≤ n∧n < 1000)→numsU (ns.map itoaF) = some ns
 | [],_=>rfl
 | n :: ns,h=>by
  show (match numU (itoaF n),numsU (ns.map itoaF) with | some n,some l=>some (n :: l) | _,_=>none) = _
  rw [numU_itoa n (h n (by simp)),numsU_itoa ns (fun m hm=>h m (by simp [hm]))]
theorem word_row (w:List UInt8) (ns:List Int) (hw:∀ b ∈ w,b ≠ 32) (h:∀ n ∈ ns,0 ≤ n∧n < 1000):splF 32 (rowF w ns) = w :: ns.map itoaF:=by
 unfold splF
 rw [splF_row ns w [] hw (fun n hn=>by have:=h n hn;omega)]
 rfl
theorem splA_snoc {c d:UInt8} (hd:d ≠ c):∀ (r acc:List UInt8),splA c acc (r ++ [c,d]) = splA c acc r ++ [[d]]
 | [],acc=>by
  show splA c acc [c,d] = [acc] ++ [[d]]
  rw [splA,if_pos rfl,splA,if_neg hd]
  rfl
 | b :: r,acc=>by
  show splA c acc (b :: (r ++ [c,d])) = _
  rw [splA,splA]
  split
  ·rw [splA_snoc hd r []];rfl
  ·rw [splA_snoc hd r _]
theorem snW_ok (x:Sn):(∀ b ∈ snW x,b ≠ 32)∧∀ b ∈ snW x,b ≠ 10:=by
 unfold snW
 split <;> decide
theorem mark_ok (x:Sn):markW x ≠ 32∧markW x ≠ 10:=by
 unfold markW
 split <;> decide
theorem word_scene (x:Sn) (h:∀ n ∈ snNs x,0 ≤ n∧n < 1000):splF 32 (snR x) = [snW x,itoaF x.part,itoaF x.least,itoaF x.most,[markW x]]:=by
 have e:=word_row (snW x) (snNs x) (snW_ok x).1 h
 unfold splF at e ⊢
 unfold snR
 rw [splA_snoc (mark_ok x).1,e]
 rfl
theorem rows_ok {e:Int} {sc:List Sn} {rl:List Rl} (h:ThrB e sc rl):∀ r ∈ rowsB e sc rl,∀ b ∈ r,b ≠ 10:=by
 intro r hr
 rcases List.mem_cons.1 hr with rfl | hr
 ·exact rowF_lines _ _ (by decide) fun n hn=>by rw [List.mem_singleton.1 hn];have:=h.he;omega
 ·rcases List.mem_append.1 hr with hr | hr
  ·obtain ⟨x,hx,rfl⟩:=List.mem_map.1 hr
   intro b hb
   unfold snR at hb
   rcases List.mem_append.1 hb with hb | hb
   ·exact rowF_lines _ _ (snW_ok x).2 (fun n hn=>by have:=h.hs x hx n hn;omega) b hb
   ·rcases List.mem_cons.1 hb with rfl | hb
    ·decide
    ·rw [List.mem_singleton.1 hb];exact (mark_ok x).2
  ·obtain ⟨x,hx,rfl⟩:=List.mem_map.1 hr
   exact rowF_lines _ _ (by decide) fun n hn=>by have:=h.hr x hx n hn;omega
theorem split_text {e:Int} {sc:List Sn} {rl:List Rl} (h:ThrB e sc rl):splF 10 (textB e sc rl) = rowsB e sc rl ++ [endR (rowsB e sc rl),[]]:=splF_seal _ (rows_ok h)
def sceneW (w:List (List UInt8)) (n:List Int):Sn:=⟨n.getD 0 0,n.getD 1 0,n.getD 2 0,decide (w.getD 0 [] = baW),decide (w.getD 4 [] = [33])⟩
def rowsR:List (List UInt8)→Option (List Sn × List Rl)
 | []=>some ([],[])
 | r :: R=>if ((splF 32 r).getD 0 [] = scW ∨ (splF 32 r).getD 0 [] = baW)∧(splF 32 r).length = 5 then
  match numsU (((splF 32 r).drop 1).take 3),rowsR R with
  | some n,some f=>some (sceneW (splF 32 r) n :: f.1,f.2)
  | _,_=>none
  else match numsU (splF 32 r).tail,rowsR R with
   | some (n :: l),some f=>some (f.1,⟨n,l⟩ :: f.2)
   | _,_=>none
def bookR:List (List UInt8)→Option (Int × List Sn × List Rl)
 | []=>some (0,[],[])
 | r :: R=>match numsU (splF 32 r).tail,rowsR R with
  | some [e],some f=>some (e,f)
  | _,_=>none
def readB (t:List UInt8):Option (Int × List Sn × List Rl):=match bookR ((splF 10 t).take ((splF 10 t).length - 2)) with
 | some f=>if textB f.1 f.2.1 f.2.2 = t then some f else none
 | none=>none
def numsB:List (List UInt8)→Except (List UInt8) (List Int)
 | []=>.ok []
 | w :: ws=>match numU w with
  | none=>.error w
  | some n=>match numsB ws with
   | .ok l=>.ok (n :: l)
   | .error e=>.error e
def rowsE:List (List UInt8)→Except (List UInt8) (List Sn × List Rl)
 | []=>.ok ([],[])
 | r :: R=>if (splF 32 r).getD 0 [] = ruW then
  match numsB (splF 32 r).tail with
  | .error e=>.error e
  | .ok []=>.error r
  | .ok (n :: l)=>match rowsE R with
   | .error e=>.error e
   | .ok f=>.ok (f.1,⟨n,l⟩ :: f.2)
  else if (splF 32 r).length = 5 then
   match numsB (((splF 32 r).drop 1).take 3) with
   | .error e=>.error e
   | .ok n=>match rowsE R with
    | .error e=>.error e
    | .ok f=>.ok (sceneW (splF 32 r) n :: f.1,f.2)
  else .error r
def parsedB (t:List UInt8):Except (List UInt8) (Int × List Sn × List Rl):=match splF 10 t with
 | r :: R=>if 2 ≤ R.length then
  match numsB (splF 32 r).tail with
  | .error e=>.error e
  | .ok n=>if n.length = 1 then
   match rowsE (R.take (R.length - 2)) with
   | .error e=>.error e
   | .ok f=>if textB (n.getD 0 0) f.1 f.2 = t then .ok (n.getD 0 0,f) else .error t
   else .error t
  else .error t
 | []=>.error t
theorem numsB_ok:∀ {ws:List (List UInt8)} {l:List Int},numsB ws = .ok l↔numsU ws = some l
 | [],l=>by
  unfold numsB numsU
  constructor <;> intro h <;> cases h <;> rfl
 | w :: ws,l=>by
  have ih:∀ l',numsB ws = .ok l'↔numsU ws = some l':=fun l'=>numsB_ok (ws:=ws) (l:=l')
  unfold numsB numsU
  cases numU w with
  | none=>exact ⟨fun h=>(by cases h),fun h=>(by cases h)⟩
  | some n =>
   cases h1:numsB ws with
   | error e =>
    cases h2:numsU ws with
    | none=>exact ⟨fun h=>(by cases h),fun h=>(by cases h)⟩
    | some l'=>have:=(ih l').2 h2;rw [h1] at this;cases this
   | ok l' =>
    rw [(ih l').1 h1]
    constructor <;> intro h <;> cases h <;> rfl
theorem scene_small {w:List (List UInt8)} {n:List Int} (h:∀ x ∈ n,0 ≤ x∧x < 1000):∀ x ∈ snNs (sceneW w n),0 ≤ x∧x < 1000:=by
 have key:∀ i,0 ≤ n.getD i 0∧n.getD i 0 < 1000:=fun i=>by
  rw [List.getD_eq_getElem?_getD]
  cases hi:n[i]? with
  | none=>exact ⟨by decide,by decide⟩
  | some y=>exact h y (List.mem_of_getElem? hi)
 intro x hx
 unfold snNs sceneW at hx
 simp only [List.mem_cons,List.not_mem_nil,or_false] at hx
 rcases hx with rfl | rfl | rfl
 ·exact key 0
 ·exact key 1
 ·exact key 2
theorem rowsR_small:∀ {R:List (List UInt8)} {f:List Sn × List Rl},rowsR R = some f→(∀ x ∈ f.1,∀ n ∈ snNs x,0 ≤ n∧n < 1000)∧∀ r ∈ f.2,∀ n ∈ r.frm :: r.to,0 ≤ n∧n < 1000
 | [],f,h=>by cases h;exact ⟨fun x hx=>(by cases hx),fun x hx=>(by cases hx)⟩
 | r :: R,f,h=>by
  unfold rowsR at h
  split at h
  ·split at h <;> try (cases h;done)
   rename_i n g h1 h2
   cases h
   obtain ⟨a,b⟩:=rowsR_small h2
   refine ⟨fun x hx=>?_,b⟩
   rcases List.mem_cons.1 hx with rfl | hx
   ·exact scene_small (numsU_small h1).2
   ·exact a x hx
  ·split at h <;> try (cases h;done)
   rename_i n l g h1 h2
   cases h
   obtain ⟨a,b⟩:=rowsR_small h2
   refine ⟨a,fun x hx=>?_⟩
   rcases List.mem_cons.1 hx with rfl | hx
   ·exact (numsU_small h1).2
   ·exact b x hx
theorem bookR_small {R:List (List UInt8)} {f:Int × List Sn × List Rl} (h:bookR R = some f):ThrB f.1 f.2.1 f.2.2:=by
 cases R with
 | nil=>cases h;exact ⟨⟨by decide,by decide⟩,fun x hx=>(by cases hx),fun x hx=>(by cases hx)⟩
 | cons r R =>
  have h:(match numsU (splF 32 r).tail,rowsR R with | some [e],some f=>some (e,f) | _,_=>none) = some f:=h
  split at h <;> try (cases h;done)
  rename_i e g h1 h2
  cases h
  obtain ⟨a,b⟩:=rowsR_small h2
  exact ⟨(numsU_small h1).2 e (by simp),a,b⟩
theorem readB_ok {t:List UInt8} {f:Int × List Sn × List Rl} (h:readB t = some f):textB f.1 f.2.1 f.2.2 = t∧ThrB f.1 f.2.1 f.2.2:=by
 unfold readB at h
 split at h <;> try (cases h;done)
 rename_i g hg
 split at h <;> cases h
 rename_i ht
 exact ⟨ht,bookR_small hg⟩
theorem rowsE_small:∀ {R:List (List UInt8)} {f:List Sn × List Rl},rowsE R = .ok f→(∀ x ∈ f.1,∀ n ∈ snNs x,0 ≤ n∧n < 1000)∧∀ r ∈ f.2,∀ n ∈ r.frm :: r.to,0 ≤ n∧n < 1000
 | [],f,h=>by cases h;exact ⟨fun x hx=>(by cases hx),fun x hx=>(by cases hx)⟩
 | r :: R,f,h=>by
  unfold rowsE at h
  split at h
  ·split at h <;> try (cases h;done)
   rename_i n l h1
   split at h <;> try (cases h;done)
   rename_i g h2
   cases h
   obtain ⟨a,b⟩:=rowsE_small h2
   refine ⟨a,fun x hx=>?_⟩
   rcases List.mem_cons.1 hx with rfl | hx
   ·exact (numsU_small (numsB_ok.1 h1)).2
   ·exact b x hx
  ·split at h <;> try (cases h;done)
   split at h <;> try (cases h;done)
   rename_i n h1
   split at h <;> try (cases h;done)
   rename_i g h2
   cases h
   obtain ⟨a,b⟩:=rowsE_small h2
   refine ⟨fun x hx=>?_,b⟩
   rcases List.mem_cons.1 hx with rfl | hx
   ·exact scene_small (numsU_small (numsB_ok.1 h1)).2
   ·exact a x hx
theorem parsedB_ok {t:List UInt8} {f:Int × List Sn × List Rl} (h:parsedB t = .ok f):textB f.1 f.2.1 f.2.2 = t∧ThrB f.1 f.2.1 f.2.2:=by
 unfold parsedB at h
 split at h <;> try (cases h;done)
 rename_i r R hsp
 split at h <;> try (cases h;done)
 split at h <;> try (cases h;done)
 rename_i n h1
 split at h <;> try (cases h;done)
 rename_i hn
 split at h <;> try (cases h;done)
 rename_i g h2
 split at h <;> cases h
 rename_i ht
 obtain ⟨a,b⟩:=rowsE_small h2
 refine ⟨ht,⟨?_,a,b⟩⟩
 match n,hn with
 | [e],_=>exact (numsU_small (numsB_ok.1 h1)).2 e (by simp)
theorem scene_back (x:Sn):sceneW [snW x,itoaF x.part,itoaF x.least,itoaF x.most,[markW x]] (snNs x) = x:=by
 obtain ⟨p,l,m,o,f⟩:=x
 cases o <;> cases f <;> rfl
theorem snW_cases (x:Sn):(snW x = scW ∨ snW x = baW)∧snW x ≠ ruW:=by
 unfold snW
 split <;> decide
theorem rowsR_rules:∀ (rl:List Rl),(∀ r ∈ rl,∀ n ∈ r.frm :: r.to,0 ≤ n∧n < 1000)→rowsR (rl.map rlR) = some ([],rl)
 | [],_=>rfl
 | r :: rl,h=>by
  have h1:=word_row ruW (r.frm :: r.to) (by decide) (h r (by simp))
  rw [List.map_cons,rowsR]
  unfold rlR
  rw [h1,if_neg (fun hh=>by rcases hh.1 with e | e <;> cases e)]
  show (match numsU ((r.frm :: r.to).map itoaF),rowsR (rl.map rlR) with | some (n :: l),some f=>some (f.1,(⟨n,l⟩:Rl) :: f.2) | _,_=>none) = _
  rw [numsU_itoa _ (h r (by simp)),rowsR_rules rl (fun x hx=>h x (by simp [hx]))]
theorem rowsR_all (rl:List Rl) (hr:∀ r ∈ rl,∀ n ∈ r.frm :: r.to,0 ≤ n∧n < 1000):∀ (sc:List Sn),(∀ x ∈ sc,∀ n ∈ snNs x,0 ≤ n∧n < 1000)→rowsR (sc.map snR ++ rl.map rlR) = some (sc,rl)
 | [],_=>rowsR_rules rl hr
 | x :: sc,h=>by
  show rowsR (snR x :: (sc.map snR ++ rl.map rlR)) = _
  rw [rowsR,word_scene x (h x (by simp)),if_pos ⟨(snW_cases x).1,rfl⟩]
  show (match numsU ((snNs x).map itoaF),rowsR (sc.map snR ++ rl.map rlR) with | some n,some f=>some (sceneW [snW x,itoaF x.part,itoaF x.least,itoaF x.most,[markW x]] n :: f.1,f.2) | _,_=>none) = _
  rw [numsU_itoa _ (h x (by simp)),rowsR_all rl hr sc (fun y hy=>h y (by simp [hy]))]
  dsimp only
  rw [scene_back]
theorem rowsE_rules:∀ (rl:List Rl),(∀ r ∈ rl,∀ n ∈ r.frm :: r.to,0 ≤ n∧n < 1000)→rowsE (rl.map rlR) = .ok ([],rl)
 | [],_=>rfl
 | r :: rl,h=>by
  have h1:=word_row ruW (r.frm :: r.to) (by decide) (h r (by simp))
  rw [List.map_cons,rowsE]
  unfold rlR
  rw [h1,if_pos (show (ruW :: (r.frm :: r.to).map itoaF).getD 0 [] = ruW from rfl)]
  have e:numsB (ruW :: (r.frm :: r.to).map itoaF).tail = .ok (r.frm :: r.to):=numsB_ok.2 (numsU_itoa _ (h r (by simp)))
  have ih:=rowsE_rules rl (fun x hx=>h x (by simp [hx]))
  unfold rlR at ih
  rw [e,ih]
theorem rowsE_all (rl:List Rl) (hr:∀ r ∈ rl,∀ n ∈ r.frm :: r.to,0 ≤ n∧n < 1000):∀ (sc:List Sn),(∀ x ∈ sc,∀ n ∈ snNs x,0 ≤ n∧n < 1000)→rowsE (sc.map snR ++ rl.map rlR) = .ok (sc,rl)
 | [],_=>rowsE_rules rl hr
 | x :: sc,h=>by
  show rowsE (snR x :: (sc.map snR ++ rl.map rlR)) = _
  rw [rowsE,word_scene x (h x (by simp)),if_neg (show ¬ [snW x,itoaF x.part,itoaF x.least,itoaF x.most,[markW x]].getD 0 [] = ruW from (snW_cases x).2),if_pos (show [snW x,itoaF x.part,itoaF x.least,itoaF x.most,[markW x]].length = 5 from rfl)]
  have e:numsB (([snW x,itoaF x.part,itoaF x.least,itoaF x.most,[markW x]].drop 1).take 3) = .ok (snNs x):=numsB_ok.2 (numsU_itoa (snNs x) (h x (by simp)))
  rw [e,rowsE_all rl hr sc (fun y hy=>h y (by simp [hy]))]
  dsimp only
  rw [scene_back]
theorem head_row {e:Int} (he:0 ≤ e∧e < 1000):numsU (splF 32 (rowF stW [e])).tail = some [e]:=by
 rw [word_row stW [e] (by decide) (fun n hn=>by rw [List.mem_singleton.1 hn];exact he)]
 exact numsU_itoa [e] (fun n hn=>by rw [List.mem_singleton.1 hn];exact he)
theorem read_text {e:Int} {sc:List Sn} {rl:List Rl} (h:ThrB e sc rl):readB (textB e sc rl) = some (e,sc,rl):=by
 unfold readB
 rw [split_text h,List.length_append,List.take_left' (by simp)]
 have e1:bookR (rowsB e sc rl) = some (e,sc,rl):=by
  show (match numsU (splF 32 (rowF stW [e])).tail,rowsR (sc.map snR ++ rl.map rlR) with | some [e],some f=>some (e,f) | _,_=>none) = _
  rw [head_row h.he,rowsR_all rl h.hr sc h.hs]
 rw [e1]
 exact if_pos rfl
theorem parsed_text {e:Int} {sc:List Sn} {rl:List Rl} (h:ThrB e sc rl):parsedB (textB e sc rl) = .ok (e,sc,rl):=by
 have hs:splF 10 (textB e sc rl) = rowF stW [e] :: ((sc.map snR ++ rl.map rlR) ++ [endR (rowsB e sc rl),[]]):=split_text h
 unfold parsedB
 rw [hs]
 dsimp only
 have e2:((sc.map snR ++ rl.map rlR) ++ [endR (rowsB e sc rl),[]]).take (((sc.map snR ++ rl.map rlR) ++ [endR (rowsB e sc rl),[]]).length - 2) = sc.map snR ++ rl.map rlR:=by
  rw [List.length_append]
  exact List.take_left' (by simp)
 have e1:numsB (splF 32 (rowF stW [e])).tail = .ok [e]:=numsB_ok.2 (head_row h.he)
 rw [if_pos (by simp;omega),e1,e2,rowsE_all rl h.hr sc h.hs]
 dsimp only
 rw [if_pos (show ([e]:List Int).length = 1 from rfl)]
 exact if_pos rfl
theorem read_alike (t:List UInt8) (f:Int × List Sn × List Rl):parsedB t = .ok f↔readB t = some f:=by
 constructor
 ·intro h
  obtain ⟨a,b⟩:=parsedB_ok h
  rw [← a];exact read_text b
 ·intro h
  obtain ⟨a,b⟩:=readB_ok h
  rw [← a];exact parsed_text b
theorem itoa_len3 (n:Int) (h:0 ≤ n∧n < 1000):(itoaF n).length ≤ 3:=by
 have key:∀ k:Fin 1000,(itoaF (k.val:Int)).length ≤ 3:=by decide +kernel
 have:=key ⟨n.toNat,by omega⟩
 have e:((n.toNat:Nat):Int) = n:=by omega
 rw [show ((⟨n.toNat,by omega⟩:Fin 1000).val:Int) = n from e] at this
 exact this
theorem row_len3 (ns:List Int) (hb:∀ n ∈ ns,0 ≤ n∧n < 1000):∀ w:List UInt8,(rowF w ns).length ≤ w.length + 4 * ns.length:=by
 induction ns with
 | nil=>intro w;exact Nat.le_refl _
 | cons n ns ih =>
  intro w
  have h1:=ih (fun m hm=>hb m (List.mem_cons_of_mem _ hm)) (w ++ 32 :: itoaF n)
  have h2:=itoa_len3 n (hb n (List.mem_cons_self ..))
  show (rowF (w ++ 32 :: itoaF n) ns).length ≤ _
  rw [List.length_append,List.length_cons] at h1
  rw [List.length_cons]
  omega
theorem rows_each {e:Int} {sc:List Sn} {rl:List Rl} (h:ThrB e sc rl) (hr:∀ r ∈ rl,r.to.length ≤ 40):∀ r ∈ rowsB e sc rl,r.length ≤ 168:=by
 intro r hr'
 rcases List.mem_cons.1 hr' with rfl | hr'
 ·exact Nat.le_trans (row_len3 [e] (fun n hn=>by rw [List.mem_singleton.1 hn];exact h.he) _) (show 5 + 4 * 1 ≤ 168 by decide)
 ·rcases List.mem_append.1 hr' with hr' | hr'
  ·obtain ⟨x,hx,rfl⟩:=List.mem_map.1 hr'
   have h1:=row_len3 (snNs x) (h.hs x hx) (snW x)
   have h2:(snW x).length ≤ 6:=by unfold snW;split <;> decide
   have h3:(snNs x).length = 3:=rfl
   unfold snR
   rw [List.length_append]
   show _ + 2 ≤ 168
   omega
  ·obtain ⟨x,hx,rfl⟩:=List.mem_map.1 hr'
   have h1:=row_len3 (x.frm :: x.to) (h.hr x hx) ruW
   have h2:ruW.length = 4:=rfl
   have h3:=hr x hx
   rw [List.length_cons] at h1
   unfold rlR
   omega
theorem text_spoilt {e:Int} {sc:List Sn} {rl:List Rl} {p q:List UInt8} {b d:UInt8} (h:ThrB e sc rl) (hr:∀ r ∈ rl,r.to.length ≤ 40) (hs:sc.length ≤ 100) (hl:rl.length ≤ 100) (hb:isDig b = true) (hd:isDig d = true) (hne:b ≠ d)
 (he:textB e sc rl = p ++ b :: q):∃ w,parsedB (p ++ d :: q) = .error w:=by
 cases hp:parsedB (p ++ d :: q) with
 | error w=>exact ⟨w,rfl⟩
 | ok f =>
  exfalso
  obtain ⟨h1,h2⟩:=parsedB_ok hp
  exact seal_spoilt (rows_ok h) (rows_ok h2) (fun r hr'=>Nat.lt_of_le_of_lt (rows_each h hr r hr') (by decide)) (by unfold rowsB;simp;omega) hb hd hne he h1
structure BigB (e:Int) (sc:List Sn) (rl:List Rl):Prop extends ThrB e sc rl where
 ls:sc.length + rl.length ≤ 600
 lt:∀ r ∈ rl,r.to.length ≤ 502
def bigB (e:Int) (sc:List Sn) (rl:List Rl):Bool :=
 thrN e && sc.all (fun x=>(snNs x).all thrN) && rl.all (fun r=>(r.frm :: r.to).all thrN && decide (r.to.length ≤ 502)) && decide (sc.length + rl.length ≤ 600)
theorem big_iff {e:Int} {sc:List Sn} {rl:List Rl}:bigB e sc rl = true↔BigB e sc rl:=by
 unfold bigB
 simp only [Bool.and_eq_true,List.all_eq_true,thr_iff,decide_eq_true_eq]
 constructor
 ·rintro ⟨⟨⟨h1,h2⟩,h3⟩,h4⟩
  exact { he:=h1,hs:=h2,hr:=fun r hr=>(h3 r hr).1,ls:=h4,lt:=fun r hr=>(h3 r hr).2 }
 ·intro h
  exact ⟨⟨⟨h.he,h.hs⟩,fun r hr=>⟨h.hr r hr,h.lt r hr⟩⟩,h.ls⟩
theorem rows_big {e:Int} {sc:List Sn} {rl:List Rl} (h:BigB e sc rl):∀ r ∈ rowsB e sc rl,r.length ≤ 2100:=by
 intro r hr'
 rcases List.mem_cons.1 hr' with rfl | hr'
 ·exact Nat.le_trans (row_len3 [e] (fun n hn=>by rw [List.mem_singleton.1 hn];exact h.he) _) (show 5 + 4 * 1 ≤ 2100 by decide)
 ·rcases List.mem_append.1 hr' with hr' | hr'
  ·obtain ⟨x,hx,rfl⟩:=List.mem_map.1 hr'
   have h1:=row_len3 (snNs x) (h.hs x hx) (snW x)
   have h2:(snW x).length ≤ 6:=by unfold snW;split <;> decide
   have h3:(snNs x).length = 3:=rfl
   unfold snR
   rw [List.length_append]
   show _ + 2 ≤ 2100
   omega
  ·obtain ⟨x,hx,rfl⟩:=List.mem_map.1 hr'
   have h1:=row_len3 (x.frm :: x.to) (h.hr x hx) ruW
   have h2:ruW.length = 4:=rfl
   have h3:=h.lt x hx
   rw [List.length_cons] at h1
   unfold rlR
   omega
theorem tail_le {k:Nat} {r:List UInt8} (h:r.length ≤ k):(splF 32 r).tail.length ≤ k:=by
 have:=splF_len 32 r
 rw [List.length_tail]
 omega
theorem rowsR_len {k:Nat}:∀ {R:List (List UInt8)} {f:List Sn × List Rl},rowsR R = some f→(∀ r ∈ R,r.length ≤ k)→f.1.length + f.2.length = R.length∧∀ r ∈ f.2,r.to.length ≤ k
 | [],f,h,_=>by cases h;exact ⟨rfl,fun x hx=>(by cases hx)⟩
 | r :: R,f,h,hk=>by
  unfold rowsR at h
  split at h
  ·split at h <;> try (cases h;done)
   rename_i n g h1 h2
   cases h
   obtain ⟨a,b⟩:=rowsR_len h2 (fun x hx=>hk x (List.mem_cons_of_mem _ hx))
   exact ⟨by simp only [List.length_cons];omega,b⟩
  ·split at h <;> try (cases h;done)
   rename_i n l g h1 h2
   cases h
   obtain ⟨a,b⟩:=rowsR_len h2 (fun x hx=>hk x (List.mem_cons_of_mem _ hx))
   refine ⟨by simp only [List.length_cons];omega,fun x hx=>?_⟩
   rcases List.mem_cons.1 hx with rfl | hx
   ·have h3:=(numsU_small h1).1
    have h4:=tail_le (hk r List.mem_cons_self)
    rw [List.length_cons] at h3
    show l.length ≤ k
    omega
   ·exact b x hx
theorem rowsE_len {k:Nat}:∀ {R:List (List UInt8)} {f:List Sn × List Rl},rowsE R = .ok f→(∀ r ∈ R,r.length ≤ k)→f.1.length + f.2.length = R.length∧∀ r ∈ f.2,r.to.length ≤ k
 | [],f,h,_=>by cases h;exact ⟨rfl,fun x hx=>(by cases hx)⟩
 | r :: R,f,h,hk=>by
  unfold rowsE at h
  split at h
  ·split at h <;> try (cases h;done)
   rename_i n l h1
   split at h <;> try (cases h;done)
   rename_i g h2
   cases h
   obtain ⟨a,b⟩:=rowsE_len h2 (fun x hx=>hk x (List.mem_cons_of_mem _ hx))
   refine ⟨by simp only [List.length_cons];omega,fun x hx=>?_⟩
   rcases List.mem_cons.1 hx with rfl | hx
   ·have h3:=(numsU_small (numsB_ok.1 h1)).1
    have h4:=tail_le (hk r List.mem_cons_self)
    rw [List.length_cons] at h3
    show l.length ≤ k
    omega
   ·exact b x hx
  ·split at h <;> try (cases h;done)
   split at h <;> try (cases h;done)
   rename_i n h1
   split at h <;> try (cases h;done)
   rename_i g h2
   cases h
   obtain ⟨a,b⟩:=rowsE_len h2 (fun x hx=>hk x (List.mem_cons_of_mem _ hx))
   exact ⟨by simp only [List.length_cons];omega,b⟩
end Go.Pv

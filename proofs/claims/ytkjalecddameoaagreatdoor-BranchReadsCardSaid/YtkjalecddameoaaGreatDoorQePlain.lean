/- Branches in plain terms: stories, how many derivations motifs have. No program in sight. -/
set_option linter.all false
namespace Go.Pv
structure Sn where
 part:Int
 least:Int
 most:Int
 loose:Bool
 formula:Bool
structure Rl where
 frm:Int
 to:List Int
def inB (x a b:Int):Bool:=decide (a ≤ x) && decide (x ≤ b)
def snB (x:Sn):Bool:=inB x.part 0 2 && inB x.least 1 240 && inB x.most x.least 240
def rlB (e n:Int) (r:Rl):Bool:=inB r.frm 0 (e - 1) && inB r.to.length 1 4 && r.to.all fun x=>inB x (r.frm + 1) (n - 1)
def partsB (e:Int) (sc:List Sn) (rl:List Rl):Bool :=
 inB e 1 6 && inB sc.length 1 8 && inB rl.length 1 10 && sc.all snB && rl.all (rlB e (e + sc.length))
def motT (suf:List (Nat × Nat)) (m1:Nat) (x:Int):Nat × Nat:=suf.getD (x.toNat - m1) (0,0)
def prodC (c:Nat→Nat) (l:List Nat):Nat:=l.foldl (fun n x=>c (n * x)) 1
def endsT (suf:List (Nat × Nat)) (m1:Nat) (r:Rl):Bool:=r.to.all fun x=>decide ((motT suf m1 x).1 ≠ 0)
def ruleT (c f:Nat→Nat) (m:Nat) (suf:List (Nat × Nat)) (a:Nat × Nat) (r:Rl):Nat × Nat :=
 if r.frm = m∧endsT suf (m + 1) r = true then (c (a.1 + prodC c (r.to.map fun x=>(motT suf (m + 1) x).1)),max a.2 (f (r.to.map fun x=>(motT suf (m + 1) x).2).sum)) else a
def cellT (c f:Nat→Nat) (m:Nat) (suf:List (Nat × Nat)) (rl:List Rl):Nat × Nat:=rl.foldl (ruleT c f m suf) (0,0)
def tabT (c f:Nat→Nat) (e n:Nat) (rl:List Rl):Nat→List (Nat × Nat)
 | 0=>[]
 | k + 1=>(if e ≤ n - (k + 1) then (1,1) else cellT c f (n - (k + 1)) (tabT c f e n rl k) rl) :: tabT c f e n rl k
structure Cap (c:Nat→Nat):Prop where
 zero:c 0 = 0
 one:c 1 = 1
 pos:∀ a,c a = 0→a = 0
 idem:∀ a,c (c a) = c a
 add:∀ a b,c (c a + c b) = c (a + b)
 mul:∀ a b,c (c a * c b) = c (a * b)
 mx:∀ a b,c (max a b) = max (c a) (c b)
theorem cap_id:Cap id:=⟨rfl,rfl,fun _ h=>h,fun _=>rfl,fun _ _=>rfl,fun _ _=>rfl,fun _ _=>rfl⟩
theorem cap_min (k:Nat) (hk:1 ≤ k):Cap (min k):=by
 refine ⟨by omega,by omega,fun a h=>by omega,fun a=>by omega,fun a b=>by omega,fun a b=>?_,fun a b=>by omega⟩
 have key:∀ a b:Nat,min k (min k a * b) = min k (a * b):=fun a b=>by
  rcases Nat.le_total k a with h | h
  ·rw [Nat.min_eq_left h]
   rcases Nat.eq_zero_or_pos b with rfl | hb
   ·simp
   ·have h1:k ≤ k * b:=Nat.le_mul_of_pos_right _ hb
    have h2:k ≤ a * b:=Nat.le_trans h1 (Nat.mul_le_mul_right _ h)
    rw [Nat.min_eq_left h1,Nat.min_eq_left h2]
  ·rw [Nat.min_eq_right h]
 rw [key,Nat.mul_comm,key,Nat.mul_comm]
def capP (c f:Nat→Nat) (p:Nat × Nat):Nat × Nat:=(c p.1,f p.2)
theorem motT_cap {c f:Nat→Nat} (hc:Cap c) (hf:Cap f) (suf:List (Nat × Nat)) (m:Nat) (x:Int):motT (suf.map (capP c f)) m x = capP c f (motT suf m x):=by
 unfold motT
 rw [List.getD_eq_getElem?_getD,List.getD_eq_getElem?_getD,List.getElem?_map]
 cases suf[x.toNat - m]? with
 | none=>show (0,0) = capP c f (0,0);unfold capP;rw [hc.zero,hf.zero]
 | some p=>rfl
theorem prodC_cap {c:Nat→Nat} (hc:Cap c):∀ (l:List Nat) (n:Nat),(l.map c).foldl (fun n x=>c (n * x)) (c n) = c (l.foldl (fun n x=>n * x) n)
 | [],n=>rfl
 | x :: l,n=>by
  show (l.map c).foldl (fun n x=>c (n * x)) (c (c n * c x)) = c (l.foldl (fun n x=>n * x) (n * x))
  rw [hc.mul,prodC_cap hc l]
theorem sum_cap {f:Nat→Nat} (hf:Cap f):∀ l:List Nat,f ((l.map f).sum) = f l.sum
 | []=>rfl
 | x :: l=>by
  rw [List.map_cons,List.sum_cons,List.sum_cons,← hf.add (f x),hf.idem,sum_cap hf l,hf.add]
theorem ends_cap {c f:Nat→Nat} (hc:Cap c) (hf:Cap f) (suf:List (Nat × Nat)) (m:Nat) (r:Rl):endsT (suf.map (capP c f)) m r = endsT suf m r:=by
 unfold endsT
 congr 1
 funext x
 rw [motT_cap hc hf]
 show decide (c (motT suf m x).1 ≠ 0) = _
 by_cases h:(motT suf m x).1 = 0
 ·rw [h,hc.zero]
 ·have:c (motT suf m x).1 ≠ 0:=fun e=>h (hc.pos _ e)
  simp [h,this]
theorem rule_cap {c f:Nat→Nat} (hc:Cap c) (hf:Cap f) (m:Nat) (suf:List (Nat × Nat)) (a:Nat × Nat) (r:Rl):ruleT c f m (suf.map (capP c f)) (capP c f a) r = capP c f (ruleT id id m suf a r):=by
 unfold ruleT
 rw [ends_cap hc hf]
 split
 ·have h1:(r.to.map fun x=>(motT (suf.map (capP c f)) (m + 1) x).1) = (r.to.map fun x=>(motT suf (m + 1) x).1).map c:=by
   rw [List.map_map]
   refine List.map_congr_left fun x _=>?_
   rw [motT_cap hc hf];rfl
  have h2:(r.to.map fun x=>(motT (suf.map (capP c f)) (m + 1) x).2) = (r.to.map fun x=>(motT suf (m + 1) x).2).map f:=by
   rw [List.map_map]
   refine List.map_congr_left fun x _=>?_
   rw [motT_cap hc hf];rfl
  rw [h1,h2]
  have h3:=prodC_cap hc (r.to.map fun x=>(motT suf (m + 1) x).1) 1
  rw [hc.one] at h3
  show (c (c a.1 + prodC c _),max (f a.2) (f _)) = (c (a.1 + prodC id _),f (max a.2 _))
  unfold prodC
  rw [h3,sum_cap hf,hc.add,hf.mx]
  rfl
 ·rfl
theorem cell_cap {c f:Nat→Nat} (hc:Cap c) (hf:Cap f) (m:Nat) (suf:List (Nat × Nat)) (rl:List Rl):cellT c f m (suf.map (capP c f)) rl = capP c f (cellT id id m suf rl):=by
 unfold cellT
 have key:∀ (rl:List Rl) (a:Nat × Nat),rl.foldl (ruleT c f m (suf.map (capP c f))) (capP c f a) = capP c f (rl.foldl (ruleT id id m suf) a):=by
  intro rl
  induction rl with
  | nil=>intro a;rfl
  | cons r rl ih =>
   intro a
   show rl.foldl _ (ruleT c f m (suf.map (capP c f)) (capP c f a) r) = _
   rw [rule_cap hc hf,ih];rfl
 have:=key rl (0,0)
 have e:capP c f (0,0) = (0,0):=by unfold capP;rw [hc.zero,hf.zero]
 rw [e] at this
 exact this
theorem tab_cap {c f:Nat→Nat} (hc:Cap c) (hf:Cap f) (e n:Nat) (rl:List Rl):∀ k,tabT c f e n rl k = (tabT id id e n rl k).map (capP c f)
 | 0=>rfl
 | k + 1=>by
  rw [tabT,tabT,List.map_cons,← tab_cap hc hf e n rl k]
  congr 1
  split
  ·unfold capP;rw [hc.one,hf.one]
  ·rw [tab_cap hc hf e n rl k,cell_cap hc hf]
def trueT (e n:Nat) (rl:List Rl):List (Nat × Nat):=tabT id id e n rl n
def storyB (e:Int) (sc:List Sn) (rl:List Rl):Bool :=
 partsB e sc rl && (let t:=((trueT e.toNat (e.toNat + sc.length) rl).getD 0 (0,0));decide (t.1 ≤ 40) && decide (t.2 ≤ 10))
end Go.Pv
namespace Go.Pv
theorem tab_len (c f:Nat→Nat) (e n:Nat) (rl:List Rl):∀ k,(tabT c f e n rl k).length = k
 | 0=>rfl
 | k + 1=>by rw [tabT,List.length_cons,tab_len c f e n rl k]
theorem tab_get (c f:Nat→Nat) (e n:Nat) (rl:List Rl) (x:Int):∀ d k,k + d ≤ n→n - k ≤ x.toNat→x.toNat < n →
 motT (tabT c f e n rl (k + d)) (n - (k + d)) x = motT (tabT c f e n rl k) (n - k) x
 | 0,k,_,_,_=>rfl
 | d + 1,k,h,h1,h2=>by
  rw [← tab_get c f e n rl x d k (by omega) h1 h2]
  unfold motT
  rw [show k + (d + 1) = (k + d) + 1 by omega,tabT]
  rw [show x.toNat - (n - (k + d + 1)) = (x.toNat - (n - (k + d))) + 1 by omega]
  rfl
theorem tab_at (c f:Nat→Nat) (e n:Nat) (rl:List Rl) (x:Int) (k:Nat) (hk:k < n) (hx:x.toNat = n - (k + 1)) :
 motT (tabT c f e n rl n) 0 x = (if e ≤ n - (k + 1) then (1,1) else cellT c f (n - (k + 1)) (tabT c f e n rl k) rl):=by
 have h:=tab_get c f e n rl x (n - (k + 1)) (k + 1) (by omega) (by omega) (by omega)
 rw [show k + 1 + (n - (k + 1)) = n by omega,Nat.sub_self] at h
 rw [h,tabT]
 unfold motT
 rw [hx,Nat.sub_self]
 rfl
def ruleF (M:Int→Nat × Nat) (m:Int) (a:Nat × Nat) (r:Rl):Nat × Nat :=
 if r.frm = m∧(r.to.all fun x=>decide ((M x).1 ≠ 0)) = true then (a.1 + (r.to.map fun x=>(M x).1).foldl (· * ·) 1,max a.2 ((r.to.map fun x=>(M x).2).sum)) else a
theorem all_congr' {α:Type} {l:List α} {p q:α→Bool} (h:∀ x,x ∈ l→p x = q x):l.all p = l.all q:=by
 induction l with
 | nil=>rfl
 | cons a l ih=>rw [List.all_cons,List.all_cons,h a List.mem_cons_self,ih fun x hx=>h x (List.mem_cons_of_mem _ hx)]
theorem flat_congr {α β:Type} {f g:α→List β}:∀ {l:List α},(∀ x,x ∈ l→f x = g x)→l.flatMap f = l.flatMap g
 | [],_=>rfl
 | a :: l,h=>by rw [List.flatMap_cons,List.flatMap_cons,h a List.mem_cons_self,flat_congr fun x hx=>h x (List.mem_cons_of_mem _ hx)]
theorem rule_true (e n:Nat) (rl:List Rl) (k:Nat) (hk:k < n) (r:Rl) (hr:∀ x ∈ r.to,r.frm < x∧x < n) (m:Int) (h0:0 ≤ m) (hm:m.toNat = n - (k + 1)) (a:Nat × Nat) :
 ruleT id id (n - (k + 1)) (tabT id id e n rl k) a r = ruleF (fun x=>motT (tabT id id e n rl n) 0 x) m a r:=by
 have em:((n - (k + 1):Nat):Int) = m:=by omega
 unfold ruleT ruleF endsT
 rw [em]
 by_cases hf:r.frm = m
 ·have key:∀ x ∈ r.to,motT (tabT id id e n rl k) (n - (k + 1) + 1) x = motT (tabT id id e n rl n) 0 x:=fun x hx=>by
   have h1:=hr x hx
   have h:=tab_get id id e n rl x (n - k) k (by omega) (by omega) (by omega)
   rw [show k + (n - k) = n by omega,Nat.sub_self] at h
   rw [h,show n - (k + 1) + 1 = n - k by omega]
  have k1:(r.to.map fun x=>(motT (tabT id id e n rl k) (n - (k + 1) + 1) x).1) = r.to.map fun x=>(motT (tabT id id e n rl n) 0 x).1:=List.map_congr_left fun x hx=>congrArg Prod.fst (key x hx)
  have k2:(r.to.map fun x=>(motT (tabT id id e n rl k) (n - (k + 1) + 1) x).2) = r.to.map fun x=>(motT (tabT id id e n rl n) 0 x).2:=List.map_congr_left fun x hx=>congrArg Prod.snd (key x hx)
  have k3:(r.to.all fun x=>decide ((motT (tabT id id e n rl k) (n - (k + 1) + 1) x).1 ≠ 0)) = r.to.all fun x=>decide ((motT (tabT id id e n rl n) 0 x).1 ≠ 0):=all_congr' fun x hx=>by rw [key x hx]
  rw [k1,k2,k3]
  rfl
 ·rw [if_neg (fun h=>hf h.1),if_neg (fun h=>hf h.1)]
def firstE (e:Int):List Int→Option Nat
 | []=>none
 | x :: l=>if x < e then some 0 else (firstE e l).map (· + 1)
def putE (l:List Int) (a:Nat) (to:List Int):List Int:=l.take a ++ to ++ l.drop (a + 1)
def forM (ok:Rl→Bool) (m:Int):List Rl→Nat→List (Nat × Rl)
 | [],_=>[]
 | r :: rl,i=>if r.frm = m∧ok r = true then (i,r) :: forM ok m rl (i + 1) else forM ok m rl (i + 1)
def derG (e:Int) (ok:Rl→Bool) (rl:List Rl):Nat→List Int→List (List Nat × List Int)
 | 0,_=>[]
 | f + 1,l=>match firstE e l with
  | none=>[([],l.map (· - e))]
  | some a=>(forM ok (l.getD a 0) rl 0).flatMap fun ir=>(derG e ok rl f (putE l a ir.2.to)).map fun d=>(ir.1 :: d.1,d.2)
def wtM (e:Int) (x:Int):Nat:=5 ^ (e - x).toNat
def wtF (e:Int) (l:List Int):Nat:=(l.map (wtM e)).sum
theorem wt_pos (e x:Int):1 ≤ wtM e x:=Nat.pow_pos (by omega)
theorem wt_app (e:Int) (l m:List Int):wtF e (l ++ m) = wtF e l + wtF e m:=by unfold wtF;rw [List.map_append,List.sum_append]
theorem first_lt {e:Int}:∀ {l:List Int} {a:Nat},firstE e l = some a→a < l.length∧l.getD a 0 < e
 | [],a,h=>by cases h
 | x :: l,a,h=>by
  rw [firstE] at h
  split at h
  ·next hx=>cases h;exact ⟨by simp,by simpa using hx⟩
  ·cases hf:firstE e l with
   | none=>rw [hf] at h;cases h
   | some b =>
    rw [hf] at h;cases h
    have ih:=first_lt hf
    refine ⟨by simp;omega,?_⟩
    simpa using ih.2
theorem first_none {e:Int}:∀ {l:List Int},firstE e l = none→∀ x ∈ l,e ≤ x
 | [],_,x,hx=>by cases hx
 | y :: l,h,x,hx=>by
  rw [firstE] at h
  split at h
  ·cases h
  ·next hy =>
   cases hf:firstE e l with
   | some b=>rw [hf] at h;cases h
   | none =>
    rcases List.mem_cons.1 hx with rfl | hx
    ·omega
    ·exact first_none hf x hx
theorem split_at {l:List Int} {a:Nat} (ha:a < l.length):l = l.take a ++ [l.getD a 0] ++ l.drop (a + 1):=by
 have h1:l.getD a 0 = l[a]:=by rw [List.getD_eq_getElem?_getD,List.getElem?_eq_getElem ha];rfl
 rw [h1,List.append_assoc,List.singleton_append,← List.drop_eq_getElem_cons ha,List.take_append_drop]
theorem wt_to {e m:Int} {to:List Int} (hm:m < e) (hl:to.length ≤ 4) (ht:∀ x ∈ to,m < x):wtF e to < wtM e m:=by
 have h:∀ l:List Int,(∀ x ∈ l,m < x)→wtF e l ≤ l.length * 5 ^ ((e - m).toNat - 1):=by
  intro l
  induction l with
  | nil=>intro _;exact Nat.zero_le _
  | cons x l ih =>
   intro h
   have h1:=ih fun y hy=>h y (List.mem_cons_of_mem _ hy)
   have h2:wtM e x ≤ 5 ^ ((e - m).toNat - 1):=Nat.pow_le_pow_right (by omega) (by have:=h x List.mem_cons_self;omega)
   show wtM e x + wtF e l ≤ (l.length + 1) * _
   rw [Nat.add_mul,Nat.one_mul];omega
 have h1:=h to ht
 have h2:to.length * 5 ^ ((e - m).toNat - 1) ≤ 4 * 5 ^ ((e - m).toNat - 1):=Nat.mul_le_mul_right _ hl
 have h3:0 < 5 ^ ((e - m).toNat - 1):=Nat.pow_pos (by omega)
 have h4:wtM e m = 5 ^ ((e - m).toNat - 1) * 5:=by
  unfold wtM
  rw [show (e - m).toNat = ((e - m).toNat - 1) + 1 by omega,Nat.pow_succ]
  simp
 omega
theorem wt_put {e:Int} {l:List Int} {a:Nat} {to:List Int} (ha:a < l.length) (hm:l.getD a 0 < e) (hl:to.length ≤ 4) (ht:∀ x ∈ to,l.getD a 0 < x):wtF e (putE l a to) < wtF e l:=by
 have h:=wt_to hm hl ht
 conv=>rhs;rw [split_at ha]
 unfold putE
 rw [wt_app,wt_app,wt_app,wt_app]
 have:wtF e [l.getD a 0] = wtM e (l.getD a 0):=by unfold wtF;simp
 omega
theorem for_mem {ok:Rl→Bool} {m:Int}:∀ {rl:List Rl} {i:Nat} {p:Nat × Rl},p ∈ forM ok m rl i→p.2 ∈ rl∧p.2.frm = m∧ok p.2 = true∧i ≤ p.1∧p.1 < i + rl.length∧rl.getD (p.1 - i) p.2 = p.2
 | [],i,p,h=>by cases h
 | r :: rl,i,p,h=>by
  rw [forM] at h
  split at h
  ·next hr =>
   rcases List.mem_cons.1 h with rfl | h
   ·exact ⟨List.mem_cons_self,hr.1,hr.2,Nat.le_refl _,by simp,by simp⟩
   ·have:=for_mem h
    refine ⟨List.mem_cons_of_mem _ this.1,this.2.1,this.2.2.1,by omega,by simp;omega,?_⟩
    rw [show p.1 - i = (p.1 - (i + 1)) + 1 by omega]
    simpa using this.2.2.2.2.2
  ·have:=for_mem h
   refine ⟨List.mem_cons_of_mem _ this.1,this.2.1,this.2.2.1,by omega,by simp;omega,?_⟩
   rw [show p.1 - i = (p.1 - (i + 1)) + 1 by omega]
   simpa using this.2.2.2.2.2
def RlOk (rl:List Rl):Prop:=∀ r ∈ rl,r.to.length ≤ 4∧∀ x ∈ r.to,r.frm < x
end Go.Pv
namespace Go.Pv
structure MTab (e n:Int) (rl:List Rl) (M:Int→Nat × Nat):Prop where
 leaf:∀ x,e ≤ x→x < n→M x = (1,1)
 node:∀ m,0 ≤ m→m < e→M m = rl.foldl (ruleF M m) (0,0)
def okF (M:Int→Nat × Nat) (r:Rl):Bool:=r.to.all fun x=>decide ((M x).1 ≠ 0)
def prodM (M:Int→Nat × Nat):List Int→Nat
 | []=>1
 | x :: l=>(M x).1 * prodM M l
def sumM (M:Int→Nat × Nat):List Int→Nat
 | []=>0
 | x :: l=>(M x).2 + sumM M l
theorem prod_app (M:Int→Nat × Nat):∀ l m,prodM M (l ++ m) = prodM M l * prodM M m
 | [],m=>by show _ = 1 * _;rw [Nat.one_mul];rfl
 | x :: l,m=>by show _ * prodM M (l ++ m) = _ * prodM M l * _;rw [prod_app M l m,Nat.mul_assoc]
theorem sum_app (M:Int→Nat × Nat):∀ l m,sumM M (l ++ m) = sumM M l + sumM M m
 | [],m=>by show _ = 0 + _;rw [Nat.zero_add];rfl
 | x :: l,m=>by show _ + sumM M (l ++ m) = _ + sumM M l + _;rw [sum_app M l m,Nat.add_assoc]
theorem prod_fold (M:Int→Nat × Nat):∀ l n,(l.map fun x=>(M x).1).foldl (· * ·) n = n * prodM M l
 | [],n=>(Nat.mul_one n).symm
 | x :: l,n=>by show (l.map fun x=>(M x).1).foldl (· * ·) (n * (M x).1) = _;rw [prod_fold M l];show _ = n * ((M x).1 * _);rw [Nat.mul_assoc]
theorem sum_map (M:Int→Nat × Nat):∀ l:List Int,(l.map fun x=>(M x).2).sum = sumM M l
 | []=>rfl
 | x :: l=>by rw [List.map_cons,List.sum_cons,sum_map M l];rfl
theorem cell_fold (M:Int→Nat × Nat) (m:Int):∀ (rl:List Rl) (i:Nat) (a:Nat × Nat),
 rl.foldl (ruleF M m) a = (forM (okF M) m rl i).foldl (fun a p=>(a.1 + prodM M p.2.to,max a.2 (sumM M p.2.to))) a
 | [],_,_=>rfl
 | r :: rl,i,a=>by
  rw [List.foldl_cons,forM]
  show rl.foldl _ (ruleF M m a r) = _
  by_cases h:r.frm = m∧okF M r = true
  ·have e1:ruleF M m a r = (a.1 + prodM M r.to,max a.2 (sumM M r.to)):=by
    have e2:ruleF M m a r = (a.1 + (r.to.map fun x=>(M x).1).foldl (· * ·) 1,max a.2 ((r.to.map fun x=>(M x).2).sum)):=if_pos h
    rw [e2,prod_fold,Nat.one_mul,sum_map]
   rw [if_pos h,e1,List.foldl_cons,← cell_fold M m rl (i + 1)]
  ·have e1:ruleF M m a r = a:=if_neg h
   rw [if_neg h,e1,cell_fold M m rl (i + 1)]
theorem fold_sum {α:Type} (g h:α→Nat):∀ (l:List α) (a:Nat × Nat),l.foldl (fun a p=>(a.1 + g p,max a.2 (h p))) a = (a.1 + (l.map g).sum,l.foldl (fun n p=>max n (h p)) a.2)
 | [],a=>by simp
 | x :: l,a=>by
  rw [List.foldl_cons,fold_sum g h l,List.map_cons,List.sum_cons,List.foldl_cons,Nat.add_assoc]
theorem max_ge {α:Type} (h:α→Nat):∀ (l:List α) (a:Nat),a ≤ l.foldl (fun n p=>max n (h p)) a∧∀ p ∈ l,h p ≤ l.foldl (fun n p=>max n (h p)) a
 | [],a=>⟨Nat.le_refl _,fun p hp=>by cases hp⟩
 | x :: l,a=>by
  rw [List.foldl_cons]
  have:=max_ge h l (max a (h x))
  refine ⟨by omega,fun p hp=>?_⟩
  rcases List.mem_cons.1 hp with rfl | hp
  ·omega
  ·exact this.2 p hp
theorem tab_many {e n:Int} {rl:List Rl} {M:Int→Nat × Nat} (hM:MTab e n rl M) {m:Int} (h0:0 ≤ m) (h1:m < e):(M m).1 = ((forM (okF M) m rl 0).map fun p=>prodM M p.2.to).sum:=by
 rw [hM.node m h0 h1,cell_fold M m rl 0,fold_sum];exact Nat.zero_add _
theorem tab_long {e n:Int} {rl:List Rl} {M:Int→Nat × Nat} (hM:MTab e n rl M) {m:Int} (h0:0 ≤ m) (h1:m < e):∀ p ∈ forM (okF M) m rl 0,sumM M p.2.to ≤ (M m).2:=by
 rw [hM.node m h0 h1,cell_fold M m rl 0,fold_sum]
 exact (max_ge (fun p:Nat × Rl=>sumM M p.2.to) _ 0).2
def InF (n:Int) (l:List Int):Prop:=∀ x ∈ l,0 ≤ x∧x < n
theorem in_put {n:Int} {l:List Int} {a:Nat} {to:List Int} (hl:InF n l) (ht:InF n to):InF n (putE l a to):=by
 intro x hx
 unfold putE at hx
 rcases List.mem_append.1 hx with hx | hx
 ·rcases List.mem_append.1 hx with hx | hx
  ·exact hl x (List.mem_of_mem_take hx)
  ·exact ht x hx
 ·exact hl x (List.mem_of_mem_drop hx)
theorem getD_mem {l:List Int} {a:Nat} (h:a < l.length):l.getD a 0 ∈ l:=by
 rw [List.getD_eq_getElem?_getD,List.getElem?_eq_getElem h];exact List.getElem_mem h
theorem leaf_prod {e n:Int} {rl:List Rl} {M:Int→Nat × Nat} (hM:MTab e n rl M):∀ l:List Int,(∀ x ∈ l,e ≤ x)→InF n l→prodM M l = 1∧sumM M l = l.length
 | [],_,_=>⟨rfl,rfl⟩
 | x :: l,h,hi=>by
  have h1:=leaf_prod hM l (fun y hy=>h y (List.mem_cons_of_mem _ hy)) (fun y hy=>hi y (List.mem_cons_of_mem _ hy))
  have h2:=hM.leaf x (h x List.mem_cons_self) (hi x List.mem_cons_self).2
  constructor
  ·show (M x).1 * _ = 1;rw [h1.1,h2];rfl
  ·show (M x).2 + _ = _;rw [h1.2,h2,List.length_cons];omega
def RlIn (n:Int) (rl:List Rl):Prop:=∀ r ∈ rl,InF n r.to
theorem der_len {e n:Int} {rl:List Rl} {M:Int→Nat × Nat} (hM:MTab e n rl M) (hr:RlOk rl) (hi:RlIn n rl):∀ f l,InF n l→wtF e l < f→(derG e (okF M) rl f l).length = prodM M l
 | 0,_,_,h=>by omega
 | f + 1,l,hl,hf=>by
  rw [derG]
  cases h:firstE e l with
  | none=>exact (leaf_prod hM l (first_none h) hl).1.symm
  | some a =>
   have h1:=first_lt h
   have h2:=hl _ (getD_mem h1.1)
   show (List.flatMap _ _).length = _
   rw [List.length_flatMap]
   conv=>rhs;rw [split_at h1.1,prod_app,prod_app]
   have e1:prodM M [l.getD a 0] = (M (l.getD a 0)).1:=by show _ * 1 = _;rw [Nat.mul_one]
   rw [e1,tab_many hM h2.1 h1.2]
   have key:∀ q:List (Nat × Rl),(∀ p ∈ q,p ∈ forM (okF M) (l.getD a 0) rl 0) →
    (q.map fun ir=>((derG e (okF M) rl f (putE l a ir.2.to)).map fun d=>(ir.1 :: d.1,d.2)).length).sum = prodM M (l.take a) * (q.map fun p=>prodM M p.2.to).sum * prodM M (l.drop (a + 1)):=by
    intro q
    induction q with
    | nil=>intro _;simp
    | cons p q ih =>
     intro hq
     rw [List.map_cons,List.sum_cons,ih (fun y hy=>hq y (List.mem_cons_of_mem _ hy)),List.map_cons,List.sum_cons,List.length_map]
     have h5:=for_mem (hq p List.mem_cons_self)
     have h6:=hr _ h5.1
     have h4:=wt_put h1.1 h1.2 h6.1 (fun x hx=>h5.2.1 ▸ h6.2 x hx)
     rw [der_len hM hr hi f _ (in_put hl (hi _ h5.1)) (by omega)]
     unfold putE
     rw [prod_app,prod_app,Nat.mul_add,Nat.add_mul]
   exact key _ fun p hp=>hp
theorem der_long {e n:Int} {rl:List Rl} {M:Int→Nat × Nat} (hM:MTab e n rl M) (hi:RlIn n rl):∀ f l,InF n l→∀ d ∈ derG e (okF M) rl f l,d.2.length ≤ sumM M l∧∀ x ∈ d.2,0 ≤ x∧x < n - e
 | 0,_,_,d,h=>by cases h
 | f + 1,l,hl,d,h=>by
  rw [derG] at h
  cases hf:firstE e l with
  | none =>
   rw [hf] at h
   cases List.mem_singleton.1 h
   refine ⟨?_,?_⟩
   ·rw [(leaf_prod hM l (first_none hf) hl).2];simp
   ·intro x hx
    obtain ⟨y,hy,rfl⟩:=List.mem_map.1 hx
    have h1:=first_none hf y hy
    have h2:=hl y hy
    omega
  | some a =>
   rw [hf] at h
   have h1:=first_lt hf
   have h2:=hl _ (getD_mem h1.1)
   obtain ⟨p,hp,hd⟩:=List.mem_flatMap.1 h
   obtain ⟨d',hd',rfl⟩:=List.mem_map.1 hd
   have h5:=for_mem hp
   have ih:=der_long hM hi f _ (in_put hl (hi _ h5.1)) d' hd'
   refine ⟨?_,ih.2⟩
   have h7:=tab_long hM h2.1 h1.2 p hp
   have e1:sumM M l = sumM M (l.take a) + (M (l.getD a 0)).2 + sumM M (l.drop (a + 1)):=by
    conv=>lhs;rw [split_at h1.1,sum_app,sum_app]
    rfl
   have e2:sumM M (putE l a p.2.to) = sumM M (l.take a) + sumM M p.2.to + sumM M (l.drop (a + 1)):=by unfold putE;rw [sum_app,sum_app]
   have:=ih.1
   show d'.2.length ≤ _
   omega
def takeR (e:Int) (rl:List Rl):List Nat→List Int→Option (List Int)
 | [],l=>match firstE e l with
  | none=>some (l.map (· - e))
  | some _=>none
 | i :: rs,l=>match firstE e l with
  | none=>none
  | some a=>match rl[i]? with
   | none=>none
   | some r=>if r.frm = l.getD a 0 then takeR e rl rs (putE l a r.to) else none
theorem for_of {ok:Rl→Bool} {m:Int}:∀ {rl:List Rl} {i k:Nat} {r:Rl},rl[k]? = some r→r.frm = m→ok r = true→(i + k,r) ∈ forM ok m rl i
 | [],i,k,r,h,_,_=>by cases h
 | r' :: rl,i,0,r,h,h1,h2=>by
  cases h
  rw [forM,if_pos ⟨h1,h2⟩];exact List.mem_cons_self
 | r' :: rl,i,k + 1,r,h,h1,h2=>by
  have ih:=for_of (ok:=ok) (m:=m) (rl:=rl) (i:=i + 1) (k:=k) h h1 h2
  rw [show i + 1 + k = i + (k + 1) by omega] at ih
  rw [forM]
  split
  ·exact List.mem_cons_of_mem _ ih
  ·exact ih
theorem for_get {ok:Rl→Bool} {m:Int} {rl:List Rl} {p:Nat × Rl} (h:p ∈ forM ok m rl 0):rl[p.1]? = some p.2:=by
 have h5:=for_mem h
 have h6:p.1 < rl.length:=by omega
 have h7:=h5.2.2.2.2.2
 rw [Nat.sub_zero,List.getD_eq_getElem?_getD,List.getElem?_eq_getElem h6] at h7
 rw [List.getElem?_eq_getElem h6]
 exact congrArg some h7
theorem prod_mem {M:Int→Nat × Nat}:∀ {l:List Int},prodM M l ≠ 0↔∀ x ∈ l,(M x).1 ≠ 0
 | []=>⟨fun _ x hx=>(by cases hx),fun _=>Nat.one_ne_zero⟩
 | y :: l=>by
  show (M y).1 * prodM M l ≠ 0↔_
  rw [Nat.mul_ne_zero_iff,prod_mem]
  simp
theorem take_ends {e n:Int} {rl:List Rl} {M:Int→Nat × Nat} (hM:MTab e n rl M) (hr:RlOk rl) (hi:RlIn n rl):∀ rs l,InF n l→(takeR e rl rs l).isSome = true→prodM M l ≠ 0
 | [],l,hl,h=>by
  rw [takeR] at h
  cases hf:firstE e l with
  | some a=>rw [hf] at h;cases h
  | none=>rw [(leaf_prod hM l (first_none hf) hl).1];exact Nat.one_ne_zero
 | i :: rs,l,hl,h=>by
  rw [takeR] at h
  cases hf:firstE e l with
  | none=>rw [hf] at h;cases h
  | some a =>
   rw [hf] at h
   cases hg:rl[i]? with
   | none=>rw [hg] at h;cases h
   | some r =>
    rw [hg] at h
    have h1:=first_lt hf
    have h2:=hl _ (getD_mem h1.1)
    have hm:r ∈ rl:=List.mem_of_getElem? hg
    by_cases hq:r.frm = l.getD a 0
    ·have h':(takeR e rl rs (putE l a r.to)).isSome = true:=by
      have h:(if r.frm = l.getD a 0 then takeR e rl rs (putE l a r.to) else none).isSome = true:=h
      rw [if_pos hq] at h;exact h
     have ih:=take_ends hM hr hi rs _ (in_put hl (hi _ hm)) h'
     unfold putE at ih
     rw [prod_app,prod_app,Nat.mul_ne_zero_iff,Nat.mul_ne_zero_iff] at ih
     rw [split_at h1.1,prod_app,prod_app,Nat.mul_ne_zero_iff,Nat.mul_ne_zero_iff]
     refine ⟨⟨ih.1.1,?_⟩,ih.2⟩
     have e1:prodM M [l.getD a 0] = (M (l.getD a 0)).1:=by show _ * 1 = _;rw [Nat.mul_one]
     rw [e1,tab_many hM h2.1 h1.2]
     have ho:okF M r = true:=by
      unfold okF
      rw [List.all_eq_true]
      intro x hx
      simpa using prod_mem.1 ih.1.2 x hx
     have hp:=for_of (ok:=okF M) (m:=l.getD a 0) (i:=0) hg hq ho
     intro hz
     have hs:∀ q:List (Nat × Rl),(q.map fun p=>prodM M p.2.to).sum = 0→∀ p ∈ q,prodM M p.2.to = 0:=by
      intro q
      induction q with
      | nil=>intro _ p hp;cases hp
      | cons p q ih =>
       intro hz p' hp'
       rw [List.map_cons,List.sum_cons] at hz
       rcases List.mem_cons.1 hp' with rfl | hp'
       ·omega
       ·exact ih (by omega) p' hp'
     exact ih.1.2 (hs _ hz _ hp)
    ·have h:(if r.frm = l.getD a 0 then takeR e rl rs (putE l a r.to) else none).isSome = true:=h
     rw [if_neg hq] at h;cases h
theorem der_take {e n:Int} {rl:List Rl} {M:Int→Nat × Nat} (hM:MTab e n rl M) (hr:RlOk rl) (hi:RlIn n rl):∀ f l,InF n l→wtF e l < f→∀ rs p,(rs,p) ∈ derG e (okF M) rl f l↔takeR e rl rs l = some p
 | 0,_,_,h,_,_=>by omega
 | f + 1,l,hl,hf,rs,p=>by
  rw [derG]
  cases h:firstE e l with
  | none =>
   show (rs,p) ∈ [([],l.map (· - e))]↔_
   cases rs with
   | nil =>
    rw [takeR,h]
    simp [eq_comm]
   | cons i rs =>
    rw [takeR,h]
    simp
  | some a =>
   have h1:=first_lt h
   show (rs,p) ∈ (forM (okF M) (l.getD a 0) rl 0).flatMap _↔_
   rw [List.mem_flatMap]
   cases rs with
   | nil =>
    rw [takeR,h]
    constructor
    ·rintro ⟨q,_,hq⟩
     obtain ⟨d,_,hd⟩:=List.mem_map.1 hq
     cases hd
    ·intro h;cases h
   | cons i rs =>
    rw [takeR,h]
    constructor
    ·rintro ⟨q,hq,hd⟩
     obtain ⟨d,hd,he⟩:=List.mem_map.1 hd
     have h5:=for_mem hq
     have h6:=hr _ h5.1
     have h4:=wt_put h1.1 h1.2 h6.1 (fun x hx=>h5.2.1 ▸ h6.2 x hx)
     have ih:=(der_take hM hr hi f _ (in_put hl (hi _ h5.1)) (by omega) d.1 d.2).1 hd
     cases he
     show (match rl[q.1]? with | none=>none | some r=>if r.frm = l.getD a 0 then takeR e rl d.1 (putE l a r.to) else none) = some d.2
     rw [for_get hq]
     show (if q.2.frm = l.getD a 0 then _ else _) = _
     rw [if_pos h5.2.1,ih]
    ·intro ht
     cases hg:rl[i]? with
     | none=>simp [hg] at ht
     | some r =>
      have hm:r ∈ rl:=List.mem_of_getElem? hg
      by_cases hq:r.frm = l.getD a 0
      ·have ht':takeR e rl rs (putE l a r.to) = some p:=by
        rw [hg] at ht
        have ht:(if r.frm = l.getD a 0 then takeR e rl rs (putE l a r.to) else none) = some p:=ht
        rw [if_pos hq] at ht;exact ht
       have hI:=in_put (a:=a) hl (hi _ hm)
       have hE:=take_ends hM hr hi rs _ hI (by rw [ht'];rfl)
       have ho:okF M r = true:=by
        unfold putE at hE
        rw [prod_app,prod_app,Nat.mul_ne_zero_iff,Nat.mul_ne_zero_iff] at hE
        unfold okF
        rw [List.all_eq_true]
        intro x hx
        simpa using prod_mem.1 hE.1.2 x hx
       have hp:=for_of (ok:=okF M) (m:=l.getD a 0) (i:=0) hg hq ho
       rw [Nat.zero_add] at hp
       have h6:=hr _ hm
       have h4:=wt_put h1.1 h1.2 h6.1 (fun x hx=>hq ▸ h6.2 x hx)
       exact ⟨(i,r),hp,List.mem_map.2 ⟨(rs,p),(der_take hM hr hi f _ hI (by omega) rs p).2 ht',rfl⟩⟩
      ·rw [hg] at ht
       have ht:(if r.frm = l.getD a 0 then takeR e rl rs (putE l a r.to) else none) = some p:=ht
       rw [if_neg hq] at ht;cases ht
end Go.Pv
namespace Go.Pv
theorem pw_unique {α:Type} {R:α→α→Prop} (irr:∀ a,¬ R a a) (tr:∀ a b c,R a b→R b c→R a c):∀ {l m:List α},l.Pairwise R→m.Pairwise R→(∀ x,x ∈ l↔x ∈ m)→l = m
 | [],[],_,_,_=>rfl
 | [],y :: m,_,_,h=>by cases (h y).2 List.mem_cons_self
 | x :: l,[],_,_,h=>by cases (h x).1 List.mem_cons_self
 | x :: l,y :: m,hl,hm,h=>by
  rw [List.pairwise_cons] at hl hm
  have exy:x = y:=by
   rcases List.mem_cons.1 ((h x).1 List.mem_cons_self) with e | h1
   ·exact e
   ·rcases List.mem_cons.1 ((h y).2 List.mem_cons_self) with e | h2
    ·exact e.symm
    ·exact (irr x (tr x y x (hl.1 y h2) (hm.1 x h1))).elim
  subst exy
  congr 1
  refine pw_unique irr tr hl.2 hm.2 fun z=>?_
  constructor
  ·intro hz
   rcases List.mem_cons.1 ((h z).1 (List.mem_cons_of_mem _ hz)) with rfl | h1
   ·exact (irr _ (hl.1 _ hz)).elim
   ·exact h1
  ·intro hz
   rcases List.mem_cons.1 ((h z).2 (List.mem_cons_of_mem _ hz)) with rfl | h1
   ·exact (irr _ (hm.1 _ hz)).elim
   ·exact h1
def sooner:List Int→List Int→Bool
 | [],[]=>false
 | [],_ :: _=>true
 | _ :: _,[]=>false
 | x :: l,y :: m=>if x = y then sooner l m else decide (x < y)
theorem sooner_irr:∀ l,sooner l l = false
 | []=>rfl
 | x :: l=>by rw [sooner,if_pos rfl,sooner_irr l]
theorem sooner_tr:∀ a b c,sooner a b = true→sooner b c = true→sooner a c = true
 | [],[],_,h,_=>by cases h
 | [],_ :: _,[],_,h=>by cases h
 | [],_ :: _,_ :: _,_,_=>rfl
 | _ :: _,[],_,h,_=>by cases h
 | _ :: _,_ :: _,[],_,h=>by cases h
 | x :: a,y :: b,z :: c,h,h'=>by
  rw [sooner] at h h' ⊢
  by_cases e1:x = y
  ·subst e1
   rw [if_pos rfl] at h
   by_cases e2:x = z
   ·subst e2
    rw [if_pos rfl] at h' ⊢
    exact sooner_tr a b c h h'
   ·rw [if_neg e2] at h' ⊢;exact h'
  ·rw [if_neg e1] at h
   have h1:=of_decide_eq_true h
   by_cases e2:y = z
   ·subst e2
    rw [if_neg e1];exact h
   ·rw [if_neg e2] at h'
    have h2:=of_decide_eq_true h'
    rw [if_neg (by omega)]
    exact decide_eq_true (by omega)
theorem sooner_tot:∀ a b,sooner a b = false→a ≠ b→sooner b a = true
 | [],[],_,h=>(h rfl).elim
 | [],_ :: _,h,_=>by cases h
 | _ :: _,[],_,_=>rfl
 | x :: a,y :: b,h,hn=>by
  rw [sooner] at h ⊢
  by_cases e1:x = y
  ·subst e1
   rw [if_pos rfl] at h ⊢
   exact sooner_tot a b h fun e=>hn (by rw [e])
  ·rw [if_neg e1] at h
   rw [if_neg (fun e=>e1 e.symm)]
   have:=of_decide_eq_false h
   exact decide_eq_true (by omega)
def insP (x:List Int):List (List Int)→List (List Int)
 | []=>[x]
 | y :: l=>if sooner x y then x :: y :: l else if x = y then y :: l else y :: insP x l
def playsL (l:List (List Int)):List (List Int):=l.foldr insP []
abbrev Rise (l:List (List Int)):Prop:=l.Pairwise fun a b=>sooner a b = true
theorem ins_mem (x:List Int):∀ (l:List (List Int)) z,z ∈ insP x l↔z = x ∨ z ∈ l
 | [],z=>by simp [insP]
 | y :: l,z=>by
  rw [insP]
  split
  ·simp
  ·split
   ·next h=>subst h;simp
   ·rw [List.mem_cons,ins_mem x l z,List.mem_cons]
    constructor
    ·rintro (h | h | h) <;> simp [h]
    ·rintro (h | h | h) <;> simp [h]
theorem ins_rise (x:List Int):∀ l:List (List Int),Rise l→Rise (insP x l)
 | [],_=>List.pairwise_singleton _ _
 | y :: l,h=>by
  have h':=List.pairwise_cons.1 h
  rw [insP]
  split
  ·next hs =>
   refine List.pairwise_cons.2 ⟨fun z hz=>?_,h⟩
   rcases List.mem_cons.1 hz with rfl | hz
   ·exact hs
   ·exact sooner_tr _ _ _ hs (h'.1 z hz)
  ·next hs =>
   split
   ·exact h
   ·next hn =>
    refine List.pairwise_cons.2 ⟨fun z hz=>?_,ins_rise x l h'.2⟩
    rcases (ins_mem x l z).1 hz with rfl | hz
    ·exact sooner_tot _ _ (by simpa using hs) hn
    ·exact h'.1 z hz
theorem plays_mem:∀ (l:List (List Int)) z,z ∈ playsL l↔z ∈ l
 | [],z=>Iff.rfl
 | x :: l,z=>by
  show z ∈ insP x (playsL l)↔_
  rw [ins_mem,plays_mem l z,List.mem_cons]
theorem plays_rise:∀ l:List (List Int),Rise (playsL l)
 | []=>List.Pairwise.nil
 | x :: l=>ins_rise x _ (plays_rise l)
theorem plays_eq {l m:List (List Int)} (h:Rise m) (hm:∀ z,z ∈ m↔z ∈ l):m = playsL l :=
 pw_unique (fun a h=>by rw [sooner_irr] at h;cases h) sooner_tr h (plays_rise l) fun x=>by rw [hm,plays_mem]
theorem ins_len (x:List Int):∀ l,(insP x l).length ≤ l.length + 1
 | []=>Nat.le_refl _
 | y :: l=>by
  rw [insP]
  split
  ·simp
  ·split
   ·simp
   ·have:=ins_len x l;simp only [List.length_cons];omega
theorem plays_len:∀ l,(playsL l).length ≤ l.length
 | []=>Nat.le_refl _
 | x :: l=>by
  have:=ins_len x (playsL l)
  have:=plays_len l
  show (insP x (playsL l)).length ≤ _
  simp only [List.length_cons];omega
theorem rise_of {l:List (List Int)} (h:l.Pairwise fun a b=>sooner b a = false) (hn:l.Nodup):Rise l :=
 (h.and hn).imp fun {a b} hh=>sooner_tot b a hh.1 fun e=>hh.2 e.symm
end Go.Pv
namespace Go.Pv
def manyM (e:Int) (n:Nat) (rl:List Rl) (x:Int):Nat × Nat:=motT (trueT e.toNat n rl) 0 x
theorem fold_congr {α β:Type} {f g:β→α→β}:∀ {l:List α} {a:β},(∀ b x,x ∈ l→f b x = g b x)→l.foldl f a = l.foldl g a
 | [],_,_=>rfl
 | x :: l,a,h=>by
  rw [List.foldl_cons,List.foldl_cons,h a x List.mem_cons_self]
  exact fold_congr fun b y hy=>h b y (List.mem_cons_of_mem _ hy)
theorem many_tab {e:Int} {n:Nat} {rl:List Rl} (he:0 ≤ e) (hn:e ≤ n) (hr:∀ r ∈ rl,∀ x ∈ r.to,r.frm < x∧x < n):MTab e n rl (manyM e n rl) where
 leaf x h1 h2:=by
  unfold manyM trueT
  rw [tab_at id id e.toNat n rl x (n - 1 - x.toNat) (by omega) (by omega),if_pos (by omega)]
 node m h0 h1:=by
  have hk:n - 1 - m.toNat < n:=by omega
  have hm:m.toNat = n - ((n - 1 - m.toNat) + 1):=by omega
  have e1:manyM e n rl m = cellT id id (n - ((n - 1 - m.toNat) + 1)) (tabT id id e.toNat n rl (n - 1 - m.toNat)) rl:=by
   unfold manyM trueT
   rw [tab_at id id e.toNat n rl m (n - 1 - m.toNat) hk hm,if_neg (by omega)]
  rw [e1]
  unfold cellT
  exact fold_congr fun b r hb=>rule_true e.toNat n rl _ hk r (hr r hb) m h0 hm b
structure PartsOk (e:Int) (sc:List Sn) (rl:List Rl):Prop where
 e1:1 ≤ e
 e6:e ≤ 6
 s1:1 ≤ sc.length
 s8:sc.length ≤ 8
 r1:1 ≤ rl.length
 r10:rl.length ≤ 10
 sn:∀ x ∈ sc,0 ≤ x.part∧x.part ≤ 2∧1 ≤ x.least∧x.least ≤ 240∧x.least ≤ x.most∧x.most ≤ 240
 rr:∀ r ∈ rl,0 ≤ r.frm∧r.frm < e∧1 ≤ r.to.length∧r.to.length ≤ 4∧∀ x ∈ r.to,r.frm < x∧x < e + sc.length
theorem inB_iff {x a b:Int}:inB x a b = true↔a ≤ x∧x ≤ b:=by unfold inB;simp
theorem parts_iff {e:Int} {sc:List Sn} {rl:List Rl}:partsB e sc rl = true↔PartsOk e sc rl:=by
 unfold partsB snB rlB
 simp only [Bool.and_eq_true,List.all_eq_true,inB_iff]
 constructor
 ·rintro ⟨⟨⟨⟨⟨h1,h2⟩,h3,h4⟩,h5,h6⟩,h7⟩,h8⟩
  exact ⟨h1,h2,by omega,by omega,by omega,by omega,fun x hx=>by have:=h7 x hx;omega,
   fun r hr=>by
    have a:=h8 r hr
    refine ⟨a.1.1.1,by omega,by omega,by omega,fun x hx=>?_⟩
    have:=a.2 x hx
    omega⟩
 ·intro h
  refine ⟨⟨⟨⟨⟨h.e1,h.e6⟩,by have:=h.s1;omega,by have:=h.s8;omega⟩,by have:=h.r1;omega,by have:=h.r10;omega⟩,fun x hx=>?_⟩,fun r hr=>?_⟩
  ·have:=h.sn x hx;omega
  ·have:=h.rr r hr
   refine ⟨⟨⟨this.1,by omega⟩,by omega,by omega⟩,fun x hx=>?_⟩
   have:=this.2.2.2.2 x hx
   omega
structure StoryOk (e:Int) (sc:List Sn) (rl:List Rl):Prop extends PartsOk e sc rl where
 many:(manyM e (e.toNat + sc.length) rl 0).1 ≤ 40
 long:(manyM e (e.toNat + sc.length) rl 0).2 ≤ 10
theorem story_iff {e:Int} {sc:List Sn} {rl:List Rl}:storyB e sc rl = true↔StoryOk e sc rl:=by
 unfold storyB
 rw [Bool.and_eq_true,parts_iff]
 have e0:manyM e (e.toNat + sc.length) rl 0 = (trueT e.toNat (e.toNat + sc.length) rl).getD 0 (0,0):=rfl
 constructor
 ·rintro ⟨h1,h2⟩
  simp only [Bool.and_eq_true,decide_eq_true_eq] at h2
  exact ⟨h1,by rw [e0];exact h2.1,by rw [e0];exact h2.2⟩
 ·intro h
  refine ⟨h.toPartsOk,?_⟩
  simp only [Bool.and_eq_true,decide_eq_true_eq]
  exact ⟨by rw [← e0];exact h.many,by rw [← e0];exact h.long⟩
namespace PartsOk
variable {e:Int} {sc:List Sn} {rl:List Rl} (h:PartsOk e sc rl)
include h
theorem num:((e.toNat + sc.length:Nat):Int) = e + sc.length:=by have:=h.e1;omega
theorem tab:MTab e (e + sc.length) rl (manyM e (e.toNat + sc.length) rl):=by
 have:=many_tab (e:=e) (n:=e.toNat + sc.length) (rl:=rl) (by have:=h.e1;omega) (by have:=h.e1;omega) (fun r hr x hx=>by have:=(h.rr r hr).2.2.2.2 x hx;rw [h.num];exact this)
 rw [h.num] at this
 exact this
theorem rlok:RlOk rl:=fun r hr=>⟨(h.rr r hr).2.2.2.1,fun x hx=>((h.rr r hr).2.2.2.2 x hx).1⟩
theorem rlin:RlIn (e + sc.length) rl:=fun r hr x hx=>by
 have h1:=h.rr r hr
 have h2:=h1.2.2.2.2 x hx
 omega
theorem zero:InF (e + sc.length) [0]:=fun x hx=>by
 rw [List.mem_singleton.1 hx]
 have:=h.e1
 omega
end PartsOk
def okR (e:Int) (sc:List Sn) (rl:List Rl):Rl→Bool:=okF (manyM e (e.toNat + sc.length) rl)
def ders (e:Int) (sc:List Sn) (rl:List Rl):List (List Nat × List Int):=derG e (okR e sc rl) rl (wtF e [0] + 1) [0]
def playsB (e:Int) (sc:List Sn) (rl:List Rl):List (List Int):=playsL ((ders e sc rl).map (·.2))
theorem ders_len {e:Int} {sc:List Sn} {rl:List Rl} (h:StoryOk e sc rl):(ders e sc rl).length ≤ 40:=by
 unfold ders okR
 rw [der_len h.tab h.rlok h.rlin _ [0] h.zero (Nat.lt_succ_self _)]
 show (manyM e (e.toNat + sc.length) rl 0).1 * 1 ≤ 40
 have:=h.many
 omega
theorem ders_play {e:Int} {sc:List Sn} {rl:List Rl} (h:StoryOk e sc rl):∀ d ∈ ders e sc rl,d.2.length ≤ 10∧∀ x ∈ d.2,0 ≤ x∧x < sc.length:=by
 intro d hd
 have:=der_long h.tab h.rlin _ [0] h.zero d hd
 have e1:sumM (manyM e (e.toNat + sc.length) rl) [0] = (manyM e (e.toNat + sc.length) rl 0).2:=Nat.add_zero _
 refine ⟨by have:=h.long;omega,fun x hx=>?_⟩
 have:=this.2 x hx
 omega
theorem ders_take {e:Int} {sc:List Sn} {rl:List Rl} (h:StoryOk e sc rl) (rs:List Nat) (p:List Int):(rs,p) ∈ ders e sc rl↔takeR e rl rs [0] = some p :=
 der_take h.tab h.rlok h.rlin _ [0] h.zero (Nat.lt_succ_self _) rs p
theorem plays_len_le {e:Int} {sc:List Sn} {rl:List Rl} (h:StoryOk e sc rl):(playsB e sc rl).length ≤ 40:=by
 have h1:=plays_len ((ders e sc rl).map (·.2))
 have h2:=ders_len h
 rw [List.length_map] at h1
 exact Nat.le_trans h1 h2
end Go.Pv
namespace Go.Pv
def intsN (l:List Nat):List Int:=l.map Int.ofNat
def ofB (ds:List (List Nat × List Int)) (p:List Int):List (List Nat × List Int):=ds.filter fun d=>decide (d.2 = p)
end Go.Pv
namespace Go.Pv
def behind (last:Option (List Int)) (x:List Int):Bool:=match last with
 | none=>true
 | some y=>sooner y x
end Go.Pv
namespace Go.Pv
theorem put_len {l:List Int} {a:Nat} {to:List Int} (ha:a < l.length) (ht:1 ≤ to.length):l.length ≤ (putE l a to).length:=by
 unfold putE
 simp only [List.length_append,List.length_take,List.length_drop]
 omega
theorem take_len {e:Int} {rl:List Rl} (hr:∀ r ∈ rl,1 ≤ r.to.length):∀ (ns:List Nat) (l:List Int) {p:List Int},takeR e rl ns l = some p→l.length ≤ p.length
 | [],l,p,h=>by
  unfold takeR at h
  split at h
  ·cases h;simp
  ·cases h
 | i :: ns,l,p,h=>by
  unfold takeR at h
  split at h
  ·cases h
  ·next a ha =>
   split at h
   ·cases h
   ·next r hri =>
    split at h
    ·have h1:=take_len hr ns _ h
     have h2:=put_len (to:=r.to) (first_lt ha).1 (hr r (List.mem_of_getElem? hri))
     omega
    ·cases h
theorem rise_nodup {l:List (List Int)} (h:Rise l):l.Nodup:=h.imp fun {a b} hab e=>by
 subst e
 rw [sooner_irr] at hab
 cases hab
namespace StoryOk
variable {e:Int} {sc:List Sn} {rl:List Rl} (h:StoryOk e sc rl)
include h
theorem to1:∀ r ∈ rl,1 ≤ r.to.length:=fun r hr=>(h.rr r hr).2.2.1
theorem play_ne:∀ d ∈ ders e sc rl,1 ≤ d.2.length:=fun d hd=>by
 have:=take_len h.to1 d.1 [0] ((ders_take h d.1 d.2).1 hd)
 simpa using this
theorem play_in {p:List Int}:p ∈ playsB e sc rl↔∃ d ∈ ders e sc rl,d.2 = p:=by
 unfold playsB
 rw [plays_mem,List.mem_map]
theorem plays_fine:∀ p ∈ playsB e sc rl,1 ≤ p.length∧p.length ≤ 10∧∀ x ∈ p,0 ≤ x∧x < sc.length:=fun p hp=>by
 obtain ⟨d,hd,rfl⟩:=h.play_in.1 hp
 exact ⟨h.play_ne d hd,ders_play h d hd⟩
end StoryOk
end Go.Pv
namespace Go.Pv
def cntW (ps:List (List Int)) (n:Int):Nat:=(ps.filter fun p=>decide (n ∈ p)).length
def wordW (ps:List (List Int)) (n:Int):Int:=if cntW ps n = 0 then 1 else if cntW ps n = ps.length then 3 else 2
def wordsB (k:Nat) (ps:List (List Int)):List Int:=(List.range k).map fun (n:Nat)=>wordW ps (n:Int)
theorem words_len (k:Nat) (ps:List (List Int)):(wordsB k ps).length = k:=by simp [wordsB]
end Go.Pv

/- Own library: sorted lists without repetition; sets of numbers and their order; minimal sets. No program. -/
import Derived.Test.YtdkhcipjenfcnaaGreatDoorXVcClear
import Derived.Lib.ItoaNum
namespace Go.Vc
set_option maxRecDepth 100000
set_option maxHeartbeats 16000000
structure STO {α:Type} (lt:α→α→Bool):Prop where
 irr:∀ a,lt a a=false
 trans:∀ a b c,lt a b=true→lt b c=true→lt a c=true
 tot:∀ a b,lt a b=false→lt b a=false→a=b
section
variable {α:Type} {lt:α→α→Bool}
theorem STO.asym (h:STO lt) {a b:α} (h1:lt a b=true):lt b a=false:=by
 cases h2:lt b a with
 | false=>rfl
 | true=>have:=h.trans a b a h1 h2;rw [h.irr] at this;cases this
def Up (lt:α→α→Bool) (l:List α):Prop:=l.Pairwise fun a b=>lt a b=true
theorem Up.ext (h:STO lt):∀ {l m:List α},Up lt l→Up lt m→(∀ x,x∈l↔x∈m)→l=m:=by
 intro l
 induction l with
 | nil =>
  intro m _ _ hm
  cases m with
  | nil=>rfl
  | cons b m=>exact absurd ((hm b).2 (by simp)) (by simp)
 | cons a l ih =>
  intro m hl hm he
  cases m with
  | nil=>exact absurd ((he a).1 (by simp)) (by simp)
  | cons b m =>
   have hl':=List.pairwise_cons.1 hl
   have hm':=List.pairwise_cons.1 hm
   have hab:a=b:=by
    rcases List.mem_cons.1 ((he a).1 (by simp)) with h1 | h1
    ·exact h1
    ·rcases List.mem_cons.1 ((he b).2 (by simp)) with h2 | h2
     ·exact h2.symm
     ·have h3:=hm'.1 a h1
      rw [h.asym (hl'.1 b h2)] at h3;cases h3
   subst hab
   refine congrArg (a :: ·) (ih hl'.2 hm'.2 fun x=>?_)
   constructor
   ·intro hx
    rcases List.mem_cons.1 ((he x).1 (by simp [hx])) with h1 | h1
    ·subst h1;have:=hl'.1 x hx;rw [h.irr] at this;cases this
    ·exact h1
   ·intro hx
    rcases List.mem_cons.1 ((he x).2 (by simp [hx])) with h1 | h1
    ·subst h1;have:=hm'.1 x hx;rw [h.irr] at this;cases this
    ·exact h1
theorem Up.nodup (h:STO lt) {l:List α} (hl:Up lt l):l.Nodup:=List.Pairwise.imp (fun {a b} hab e=>by subst e;rw [h.irr] at hab;cases hab) hl
def insU (lt:α→α→Bool) (x:α):List α→List α
 | []=>[x]
 | y :: l=>if lt x y=true then x :: y :: l else if lt y x=true then y :: insU lt x l else y :: l
theorem insU_mem (h:STO lt) (x z:α):∀ l,z∈insU lt x l↔z=x∨z∈l:=by
 intro l
 induction l with
 | nil=>simp [insU]
 | cons y l ih =>
  rw [insU]
  by_cases h1:lt x y=true
  ·rw [if_pos h1];simp
  ·rw [if_neg h1]
   by_cases h2:lt y x=true
   ·rw [if_pos h2,List.mem_cons,ih,List.mem_cons]
    constructor
    ·rintro (h | h | h)
     ·exact .inr (.inl h)
     ·exact .inl h
     ·exact .inr (.inr h)
    ·rintro (h | h | h)
     ·exact .inr (.inl h)
     ·exact .inl h
     ·exact .inr (.inr h)
   ·rw [if_neg h2]
    have:=h.tot x y (by simpa using h1) (by simpa using h2)
    subst this
    simp
theorem insU_up (h:STO lt) (x:α):∀ l,Up lt l→Up lt (insU lt x l):=by
 intro l
 induction l with
 | nil=>intro _;exact List.pairwise_singleton _ _
 | cons y l ih =>
  intro hl
  have hl':=List.pairwise_cons.1 hl
  rw [insU]
  by_cases h1:lt x y=true
  ·rw [if_pos h1]
   refine List.pairwise_cons.2 ⟨fun z hz=>?_,hl⟩
   rcases List.mem_cons.1 hz with rfl | hz
   ·exact h1
   ·exact h.trans _ _ _ h1 (hl'.1 z hz)
  ·rw [if_neg h1]
   by_cases h2:lt y x=true
   ·rw [if_pos h2]
    refine List.pairwise_cons.2 ⟨fun z hz=>?_,ih hl'.2⟩
    rcases (insU_mem h x z l).1 hz with rfl | hz
    ·exact h2
    ·exact hl'.1 z hz
   ·rw [if_neg h2];exact hl
def usort (lt:α→α→Bool) (l:List α):List α:=l.foldr (insU lt) []
theorem usort_mem (h:STO lt) (z:α):∀ l:List α,z∈usort lt l↔z∈l:=by
 intro l
 induction l with
 | nil=>exact Iff.rfl
 | cons a l ih =>
  show z∈insU lt a (usort lt l)↔_
  rw [insU_mem h,ih,List.mem_cons]
theorem usort_up (h:STO lt):∀ l:List α,Up lt (usort lt l):=by
 intro l
 induction l with
 | nil=>exact List.Pairwise.nil
 | cons a l ih=>exact insU_up h a _ ih
theorem usort_eq (h:STO lt) {l m:List α} (hl:Up lt l) (hm:∀ x,x∈l↔x∈m):usort lt m=l:=Up.ext h (usort_up h m) hl fun x=>by rw [usort_mem h];exact (hm x).symm
end
/-! ### Sets of numbers -/
def ltI (a b:Int):Bool:=decide (a<b)
theorem ltI_sto:STO ltI:=⟨fun a=>by simp [ltI],fun a b c h1 h2=>by simp [ltI] at *;omega,fun a b h1 h2=>by simp [ltI] at *;omega⟩
abbrev Inc (l:List Int):Prop:=l.Pairwise (· < ·)
theorem up_inc {l:List Int}:Up ltI l↔Inc l:=by
 unfold Up Inc
 constructor
 ·exact List.Pairwise.imp fun {a b} h=>of_decide_eq_true h
 ·exact List.Pairwise.imp fun {a b} h=>decide_eq_true h
def setF (l:List Int):List Int:=usort ltI l
theorem setF_mem (x:Int) (l:List Int):x∈setF l↔x∈l:=usort_mem ltI_sto x l
theorem setF_inc (l:List Int):Inc (setF l):=up_inc.1 (usort_up ltI_sto l)
theorem setF_eq {l m:List Int} (hl:Inc l) (hm:∀ x,x∈l↔x∈m):setF m=l:=usort_eq ltI_sto (up_inc.2 hl) hm
theorem setF_id {l:List Int} (hl:Inc l):setF l=l:=setF_eq hl fun _=>Iff.rfl
theorem inc_ext {l m:List Int} (hl:Inc l) (hm:Inc m) (h:∀ x,x∈l↔x∈m):l=m:=Up.ext ltI_sto (up_inc.2 hl) (up_inc.2 hm) h
theorem inc_nodup {l:List Int} (h:Inc l):l.Nodup:=(up_inc.2 h).nodup ltI_sto
theorem setF_nil {l:List Int}:setF l=[]↔l=[]:=by
 constructor
 ·intro h
  cases l with
  | nil=>rfl
  | cons a l=>have:=(setF_mem a (a :: l)).2 (by simp);rw [h] at this;cases this
 ·rintro rfl;rfl
theorem setF_len (l:List Int):(setF l).length≤l.length:=by
 induction l with
 | nil=>exact Nat.le_refl _
 | cons a l ih =>
  show (insU ltI a (setF l)).length≤_
  have:∀ m:List Int,(insU ltI a m).length≤m.length+1:=by
   intro m
   induction m with
   | nil=>simp [insU]
   | cons y m ih =>
    rw [insU]
    split
    ·simp
    ·split
     ·simp only [List.length_cons];omega
     ·simp
  have:=this (setF l)
  simp only [List.length_cons];omega
def subB (a b:List Int):Bool:=a.all fun x=>decide (x∈b)
theorem subB_iff {a b:List Int}:subB a b=true↔∀ x∈a,x∈b:=by simp [subB]
theorem subB_refl (a:List Int):subB a a=true:=subB_iff.2 fun _ h=>h
theorem subB_trans {a b c:List Int} (h1:subB a b=true) (h2:subB b c=true):subB a c=true:=subB_iff.2 fun x hx=>subB_iff.1 h2 x (subB_iff.1 h1 x hx)
theorem subB_anti {a b:List Int} (ha:Inc a) (hb:Inc b) (h1:subB a b=true) (h2:subB b a=true):a=b:=inc_ext ha hb fun x=>⟨subB_iff.1 h1 x,subB_iff.1 h2 x⟩
theorem nodup_sub {a b:List Int} (ha:a.Nodup) (h:∀ x∈a,x∈b):a.length≤b.length:=by
 induction a generalizing b with
 | nil=>simp
 | cons x a ih =>
  have hx:=h x (by simp)
  obtain ⟨s,t,rfl⟩:=List.append_of_mem hx
  have ha':=List.nodup_cons.1 ha
  have:=ih (b:=s++t) ha'.2 fun y hy=>by
   have:=h y (by simp [hy])
   have hne:y≠x:=fun e=>ha'.1 (e▸hy)
   simp [hne] at this
   simp;exact this
  simp at this ⊢;omega
theorem subB_len {a b:List Int} (ha:Inc a) (h:subB a b=true):a.length≤b.length:=nodup_sub (inc_nodup ha) (subB_iff.1 h)
theorem subB_eq {a b:List Int} (ha:Inc a) (hb:Inc b) (h:subB a b=true) (hl:b.length≤a.length):a=b:=by
 refine subB_anti ha hb h (subB_iff.2 fun x hx=>?_)
 refine Classical.byContradiction fun hn=>?_
 have:=nodup_sub (a:=x :: a) (b:=b) (List.nodup_cons.2 ⟨hn,inc_nodup ha⟩) fun y hy=>by
  rcases List.mem_cons.1 hy with rfl | hy
  ·exact hx
  ·exact subB_iff.1 h y hy
 simp at this;omega
/-! ### The order of lists -/
def lexB:List Int→List Int→Bool
 | [],[]=>false
 | [],_ :: _=>true
 | _ :: _,[]=>false
 | a :: l,b :: m=>if a<b then true else if b<a then false else lexB l m
theorem lexB_sto:STO lexB where
 irr:=by
  intro a
  induction a with
  | nil=>rfl
  | cons x a ih=>rw [lexB,if_neg (by omega),if_neg (by omega)];exact ih
 trans:=by
  intro a
  induction a with
  | nil =>
   intro b c h1 h2
   cases b with
   | nil=>cases h1
   | cons y b=>cases c with
    | nil=>cases h2
    | cons z c=>rfl
  | cons x a ih =>
   intro b c h1 h2
   cases b with
   | nil=>cases h1
   | cons y b =>
    cases c with
    | nil=>cases h2
    | cons z c =>
     rw [lexB] at h1 h2 ⊢
     by_cases h3:x<y
     ·by_cases h4:y<z
      ·rw [if_pos (by omega)]
      ·rw [if_neg h4] at h2
       by_cases h5:z<y
       ·rw [if_pos h5] at h2;cases h2
       ·rw [if_pos (by omega)]
     ·rw [if_neg h3] at h1
      by_cases h6:y<x
      ·rw [if_pos h6] at h1;cases h1
      ·rw [if_neg h6] at h1
       by_cases h4:y<z
       ·rw [if_pos (by omega)]
       ·rw [if_neg h4] at h2
        by_cases h5:z<y
        ·rw [if_pos h5] at h2;cases h2
        ·rw [if_neg h5] at h2
         rw [if_neg (by omega),if_neg (by omega)]
         exact ih b c h1 h2
 tot:=by
  intro a
  induction a with
  | nil =>
   intro b h1 h2
   cases b with
   | nil=>rfl
   | cons y b=>cases h1
  | cons x a ih =>
   intro b h1 h2
   cases b with
   | nil=>cases h2
   | cons y b =>
    rw [lexB] at h1 h2
    by_cases h3:x<y
    ·rw [if_pos h3] at h1;cases h1
    ·by_cases h4:y<x
     ·rw [if_pos h4] at h2;cases h2
     ·rw [if_neg h3,if_neg h4] at h1
      rw [if_neg h4,if_neg h3] at h2
      have:x=y:=by omega
      rw [this,ih b h1 h2]
/-! ### Minimal sets -/
def setsOf (E:List (List Int)):List (List Int):=(E.filter fun e=>decide (e≠[])).map setF
theorem setsOf_mem {E:List (List Int)} {e:List Int}:e∈setsOf E↔∃ x∈E,x≠[]∧e=setF x:=by
 unfold setsOf
 simp only [List.mem_map,List.mem_filter,decide_eq_true_eq]
 constructor
 ·rintro ⟨x,⟨h1,h2⟩,h3⟩;exact ⟨x,h1,h2,h3.symm⟩
 ·rintro ⟨x,h1,h2,h3⟩;exact ⟨x,⟨h1,h2⟩,h3.symm⟩
theorem setsOf_inc {E:List (List Int)} {e:List Int} (h:e∈setsOf E):Inc e∧e≠[]:=by
 obtain ⟨x,_,h2,rfl⟩:=setsOf_mem.1 h
 exact ⟨setF_inc x,fun e=>h2 (setF_nil.1 e)⟩
theorem setsOf_id {E:List (List Int)} (h:∀ e∈E,Inc e∧e≠[]):∀ e,e∈setsOf E↔e∈E:=fun e=>by
 rw [setsOf_mem]
 constructor
 ·rintro ⟨x,h1,_,rfl⟩;rw [setF_id (h x h1).1];exact h1
 ·intro he;exact ⟨e,he,(h e he).2,(setF_id (h e he).1).symm⟩
def isMin (S:List (List Int)) (e:List Int):Bool:=S.all fun f=>!subB f e||decide (f=e)
theorem isMin_iff {S:List (List Int)} {e:List Int}:isMin S e=true↔∀ f∈S,subB f e=true→f=e:=by
 unfold isMin
 rw [List.all_eq_true]
 constructor
 ·intro h f hf hs
  have:=h f hf
  rw [hs] at this
  simpa using this
 ·intro h f hf
  cases hs:subB f e with
  | false=>rfl
  | true=>simp [h f hf hs]
def minF (E:List (List Int)):List (List Int):=usort lexB ((setsOf E).filter (isMin (setsOf E)))
theorem minF_mem {E:List (List Int)} {e:List Int}:e∈minF E↔e∈setsOf E∧∀ f∈setsOf E,subB f e=true→f=e:=by
 unfold minF
 rw [usort_mem lexB_sto,List.mem_filter,isMin_iff]
theorem minF_up (E:List (List Int)):Up lexB (minF E):=usort_up lexB_sto _
theorem minF_self {E:List (List Int)} (h1:∀ e∈E,Inc e∧e≠[]):minF E=E↔Up lexB E∧∀ e∈E,∀ f∈E,subB f e=true→f=e:=by
 have hs:=setsOf_id h1
 constructor
 ·intro h
  refine ⟨h▸minF_up E,fun e he f hf=>?_⟩
  have:=(minF_mem.1 (h.symm▸he)).2 f ((hs f).2 hf)
  exact this
 ·rintro ⟨h2,h3⟩
  refine Up.ext lexB_sto (minF_up E) h2 fun e=>?_
  rw [minF_mem,hs]
  exact ⟨fun h=>h.1,fun h=>⟨h,fun f hf=>h3 e h f ((hs f).1 hf)⟩⟩
open Go.Lib
def valD (l:List UInt8):Nat:=l.foldl (fun v d=>v*10+(d.toNat-48)) 0
theorem valD_snoc (l:List UInt8) (d:UInt8):valD (l++[d])=valD l*10+(d.toNat-48):=by simp [valD]
theorem dig_nat {u:Nat} (h:u<10):(UInt8.ofNat (48+u)).toNat=48+u:=by
 rw [UInt8.toNat_ofNat'];omega
theorem decDigits_val:∀ u,valD (decDigits u)=u:=by
 intro u
 induction u using Nat.strongRecOn with
 | ind u ih =>
  rw [decDigits]
  split
  ·rename_i h;simp [valD];omega
  ·rename_i h
   rw [valD_snoc,ih (u / 10) (by omega),dig_nat (by omega)];omega
theorem decDigits_rng:∀ u,∀ d∈decDigits u,48≤d.toNat∧d.toNat≤57:=by
 intro u
 induction u using Nat.strongRecOn with
 | ind u ih =>
  rw [decDigits]
  split
  ·rename_i h
   intro d hd
   rw [List.mem_singleton] at hd
   rw [hd,dig_nat h];omega
  ·rename_i h
   intro d hd
   rcases List.mem_append.1 hd with hd | hd
   ·exact ih (u / 10) (by omega) d hd
   ·rw [List.mem_singleton] at hd
    rw [hd,dig_nat (by omega)];omega
theorem decDigits_inj {u v:Nat} (h:decDigits u=decDigits v):u=v:=by rw [←decDigits_val u,h,decDigits_val]
theorem itoa_inj {a b:Int} (h:itoa a=itoa b):a=b:=by
 have key:∀ {u v:Nat},¬(45 :: decDigits u=decDigits v):=by
  intro u v e
  have:=decDigits_rng v 45 (by rw [←e];simp)
  have h45:(45:UInt8).toNat=45:=rfl
  omega
 unfold itoa at h
 by_cases ha:a<0
 ·rw [if_pos ha] at h
  by_cases hb:b<0
  ·rw [if_pos hb] at h
   injection h with _ h
   have:=decDigits_inj h;omega
  ·rw [if_neg hb] at h;exact absurd h key
 ·rw [if_neg ha] at h
  by_cases hb:b<0
  ·rw [if_pos hb] at h;exact absurd h.symm key
  ·rw [if_neg hb] at h
   have:=decDigits_inj h;omega
theorem itoa_no32 (a:Int):∀ d∈itoa a,d≠32:=by
 intro d hd e
 subst e
 have h32:(32:UInt8).toNat=32:=rfl
 unfold itoa at hd
 split at hd
 ·rcases List.mem_cons.1 hd with h | h
  ·exact absurd h (by decide)
  ·have:=decDigits_rng _ _ h;omega
 ·have:=decDigits_rng _ _ hd;omega
def textF (l:List Int):List UInt8:=l.flatMap fun x=>itoa x++[32]
theorem cut32 {a b:List UInt8} (ha:∀ d∈a,d≠32) (hb:∀ d∈b,d≠32) {s t:List UInt8}:a++32 :: s=b++32 :: t→a=b∧s=t:=by
 induction a generalizing b with
 | nil =>
  intro h
  cases b with
  | nil=>simpa using h
  | cons y b =>
   injection h with h1 _
   exact absurd h1.symm (hb y (by simp))
 | cons x a ih =>
  intro h
  cases b with
  | nil =>
   injection h with h1 _
   exact absurd h1 (ha x (by simp))
  | cons y b =>
   injection h with h1 h2
   obtain ⟨h3,h4⟩:=ih (fun d hd=>ha d (by simp [hd])) (fun d hd=>hb d (by simp [hd])) h2
   exact ⟨by rw [h1,h3],h4⟩
theorem textF_cons (x:Int) (l:List Int):textF (x :: l)=itoa x++32 :: textF l:=by simp [textF]
theorem textF_inj:∀ {l m:List Int},textF l=textF m→l=m:=by
 intro l
 induction l with
 | nil =>
  intro m h
  cases m with
  | nil=>rfl
  | cons y m=>rw [textF_cons] at h;simp [textF] at h
 | cons x l ih =>
  intro m h
  cases m with
  | nil=>rw [textF_cons] at h;simp [textF] at h
  | cons y m =>
   rw [textF_cons,textF_cons] at h
   obtain ⟨h1,h2⟩:=cut32 (itoa_no32 x) (itoa_no32 y) h
   rw [itoa_inj h1,ih h2]
theorem textF_snoc (l:List Int) (x:Int):textF (l++[x])=textF l++itoa x++[32]:=by simp [textF]
/-! ### Subsets -/
def bitsOf (p:Nat→Bool):Nat→Nat
 | 0=>0
 | n+1=>bitsOf p n+if p n=true then 2 ^ n else 0
theorem bitsOf_lt (p:Nat→Bool):∀ n,bitsOf p n<2 ^ n:=by
 intro n
 induction n with
 | zero=>simp [bitsOf]
 | succ n ih =>
  rw [bitsOf,Nat.pow_succ]
  split <;> omega
theorem bitsOf_at (p:Nat→Bool):∀ n i,i<n→bitsOf p n / 2 ^ i % 2=if p i=true then 1 else 0:=by
 intro n
 induction n with
 | zero=>intro i h;omega
 | succ n ih =>
  intro i hi
  rw [bitsOf]
  by_cases e:i=n
  ·subst e
   have hlt:=bitsOf_lt p i
   have hp:0<2 ^ i:=Nat.two_pow_pos i
   by_cases h:p i=true
   ·rw [if_pos h,if_pos h,Nat.add_div_right _ hp,Nat.div_eq_of_lt hlt]
   ·rw [if_neg h,if_neg h,Nat.add_zero,Nat.div_eq_of_lt hlt]
  ·have hlt:i<n:=by omega
   rw [←ih i hlt]
   by_cases h:p n=true
   ·rw [if_pos h]
    have e2:2 ^ n=2 ^ i*(2*2 ^ (n-i-1)):=by
     rw [←Nat.mul_assoc,←Nat.pow_succ,←Nat.pow_add];congr 1;omega
    rw [e2,Nat.add_mul_div_left _ _ (Nat.two_pow_pos i),Nat.add_mul_mod_self_left]
   ·rw [if_neg h,Nat.add_zero]
def subK (e:List Int) (b k:Nat):List Int:=((List.range k).filter fun i=>decide (b / 2 ^ i % 2=1)).map fun i=>e.getD i default
theorem subK_succ (e:List Int) (b k:Nat):subK e b (k+1)=subK e b k++if b / 2 ^ k % 2=1 then [e.getD k default] else []:=by
 unfold subK
 rw [List.range_succ,List.filter_append,List.map_append]
 congr 1
 by_cases h:b / 2 ^ k % 2=1
 ·rw [if_pos h,List.filter_cons_of_pos (by simpa using h)];rfl
 ·rw [if_neg h,List.filter_cons_of_neg (by simpa using h)];rfl
theorem subK_len (e:List Int) (b k:Nat):(subK e b k).length≤k:=by
 unfold subK
 rw [List.length_map]
 exact Nat.le_trans (List.length_filter_le _ _) (by simp)
theorem subK_sub {e:List Int} {b:Nat}:subB (subK e b e.length) e=true:=by
 rw [subB_iff]
 intro x hx
 obtain ⟨i,hi,rfl⟩:=List.mem_map.1 hx
 have hi:i<e.length:=by simpa using (List.mem_filter.1 hi).1
 rw [show e.getD i default=e[i] by simp [List.getD,hi]];exact List.getElem_mem _
theorem subK_all {e f:List Int} (he:Inc e) (hf:Inc f) (h:subB f e=true):∃ b,b<2 ^ e.length∧subK e b e.length=f:=by
 refine ⟨bitsOf (fun i=>decide (e.getD i default∈f)) e.length,bitsOf_lt _ _,inc_ext ?_ hf fun x=>?_⟩
 ·unfold subK
  refine List.pairwise_map.2 ?_
  refine List.Pairwise.filter _ ?_
  refine List.pairwise_iff_getElem.2 fun i j hi hj hij=>?_
  simp at hi hj
  simp only [List.getElem_range]
  have:=List.pairwise_iff_getElem.1 he i j hi hj hij
  simpa [List.getD,hi,hj] using this
 ·unfold subK
  rw [List.mem_map]
  constructor
  ·rintro ⟨i,hi,rfl⟩
   obtain ⟨h1,h2⟩:=List.mem_filter.1 hi
   rw [bitsOf_at _ _ i (by simpa using h1)] at h2
   by_cases hm:e.getD i default∈f
   ·exact hm
   ·simp at h2;simpa using h2
  ·intro hx
   obtain ⟨i,hi,e1⟩:=List.getElem_of_mem (subB_iff.1 h x hx)
   have eg:e.getD i default=x:=by rw [←e1];simp [List.getD,hi]
   refine ⟨i,List.mem_filter.2 ⟨by simpa using hi,?_⟩,eg⟩
   rw [bitsOf_at _ _ i hi]
   simp only [eg,hx,decide_true,if_true]
def contF:List Int→List Int→Bool
 | _,[]=>true
 | [],_ :: _=>false
 | a :: l,b :: m=>if a=b then contF l m else contF l (b :: m)
theorem contF_nil (a:List Int):contF a []=true:=by cases a <;> rfl
theorem contF_mem:∀ {a b:List Int},contF a b=true→∀ x∈b,x∈a:=by
 intro a
 induction a with
 | nil =>
  intro b h x hx
  cases b with
  | nil=>exact hx
  | cons y b=>cases h
 | cons y a ih =>
  intro b h x hx
  cases b with
  | nil=>cases hx
  | cons z b =>
   rw [contF] at h
   by_cases e:y=z
   ·rw [if_pos e] at h
    rcases List.mem_cons.1 hx with rfl | hx
    ·exact e▸List.mem_cons_self
    ·exact List.mem_cons_of_mem _ (ih h x hx)
   ·rw [if_neg e] at h
    exact List.mem_cons_of_mem _ (ih h x hx)
theorem contF_of:∀ {a b:List Int},Inc a→Inc b→(∀ x∈b,x∈a)→contF a b=true:=by
 intro a
 induction a with
 | nil =>
  intro b _ _ h
  cases b with
  | nil=>rfl
  | cons y b=>exact absurd (h y (by simp)) (by simp)
 | cons y a ih =>
  intro b ha hb h
  cases b with
  | nil=>rfl
  | cons z b =>
   have ha':=List.pairwise_cons.1 ha
   have hb':=List.pairwise_cons.1 hb
   rw [contF]
   by_cases e:y=z
   ·rw [if_pos e]
    refine ih ha'.2 hb'.2 fun x hx=>?_
    rcases List.mem_cons.1 (h x (by simp [hx])) with h1 | h1
    ·have:=hb'.1 x hx;omega
    ·exact h1
   ·rw [if_neg e]
    refine ih ha'.2 hb fun x hx=>?_
    rcases List.mem_cons.1 (h x hx) with h1 | h1
    ·rcases List.mem_cons.1 (h z (by simp)) with h2 | h2
     ·exact absurd h2.symm e
     ·have:=ha'.1 z h2
      rcases List.mem_cons.1 hx with h3 | h3
      ·omega
      ·have:=hb'.1 x h3;omega
    ·exact h1
theorem contF_sub {a b:List Int} (ha:Inc a) (hb:Inc b):contF a b=subB b a:=by
 cases h:subB b a with
 | true=>exact contF_of ha hb (subB_iff.1 h)
 | false =>
  cases h2:contF a b with
  | false=>rfl
  | true=>rw [subB_iff.2 (contF_mem h2)] at h;cases h
def freeF (E:List (List Int)) (s:List Int):Bool:=E.all fun e=>decide (e=[])||!contF s e
theorem freeF_iff {E:List (List Int)} {s:List Int}:freeF E s=true↔∀ e∈E,e≠[]→contF s e=false:=by
 unfold freeF
 rw [List.all_eq_true]
 constructor
 ·intro h e he hn
  have:=h e he
  rw [decide_eq_false hn] at this
  simpa using this
 ·intro h e he
  by_cases hn:e=[]
  ·simp [hn]
  ·simp [h e he hn]
theorem freeF_sets {E:List (List Int)} {s:List Int} (hE:∀ e∈E,Inc e∧e≠[]) (hs:Inc s):freeF E s=true↔∀ e∈E,subB e s=false:=by
 rw [freeF_iff]
 constructor
 ·intro h e he
  rw [←contF_sub hs (hE e he).1];exact h e he (hE e he).2
 ·intro h e he _
  rw [contF_sub hs (hE e he).1];exact h e he
def setB (l:List Int) (n:Int):Bool:=decide (Inc l)&&l.all fun x=>decide (0≤x)&&decide (x<n)
theorem setB_iff {l:List Int} {n:Int}:setB l n=true↔Inc l∧∀ x∈l,0≤x∧x<n:=by
 unfold setB
 simp [List.all_eq_true]
def costB (n:Int) (cost:List Int):Bool:=decide (0≤n)&&decide (n≤4000)&&decide ((cost.length:Int)=n)&&cost.all fun c=>decide (0≤c)&&decide (c≤1000000000)
theorem costB_iff {n:Int} {cost:List Int}:costB n cost=true↔0≤n∧n≤4000∧(cost.length:Int)=n∧∀ c∈cost,0≤c∧c≤1000000000:=by
 unfold costB
 simp [List.all_eq_true,and_assoc]
structure Gr where
 n:Int
 cost:List Int
 edges:List (List Int)
 deriving DecidableEq
instance:Inhabited Gr:=⟨⟨0,[],[]⟩⟩
def edgeB (n:Int) (e:List Int):Bool:=decide (e≠[])&&setB e n
theorem edgeB_iff {n:Int} {e:List Int}:edgeB n e=true↔e≠[]∧Inc e∧∀ x∈e,0≤x∧x<n:=by
 unfold edgeB
 rw [Bool.and_eq_true,setB_iff,decide_eq_true_eq]
def validG (g:Gr):Bool:=costB g.n g.cost&&decide (g.edges.length≤20000)&&g.edges.all (edgeB g.n)&&decide (minF g.edges=g.edges)
theorem validG_iff {g:Gr}:validG g=true↔costB g.n g.cost=true∧g.edges.length≤20000∧(∀ e∈g.edges,e≠[]∧Inc e∧∀ x∈e,0≤x∧x<g.n)∧minF g.edges=g.edges:=by
 unfold validG
 simp only [Bool.and_eq_true,decide_eq_true_eq,List.all_eq_true,edgeB_iff,and_assoc]
theorem validG_iff2 {g:Gr}:validG g=true↔costB g.n g.cost=true∧g.edges.length≤20000∧(∀ e∈g.edges,e≠[]∧Inc e∧∀ x∈e,0≤x∧x<g.n)∧Up lexB g.edges∧∀ e∈g.edges,∀ f∈g.edges,subB f e=true→f=e:=by
 rw [validG_iff]
 constructor
 ·rintro ⟨h1,h2,h3,h4⟩;exact ⟨h1,h2,h3,(minF_self fun e he=>⟨(h3 e he).2.1,(h3 e he).1⟩).1 h4⟩
 ·rintro ⟨h1,h2,h3,h4⟩;exact ⟨h1,h2,h3,(minF_self fun e he=>⟨(h3 e he).2.1,(h3 e he).1⟩).2 h4⟩
/-! ### Classes -/
def par (c:List Int) (i:Nat):Nat:=(c.getD i default).toNat
def Cls (c:List Int):Prop:=∀ i,i<c.length→0≤c.getD i default∧c.getD i default≤(i:Int)
theorem Cls.par {c:List Int} (h:Cls c) {i:Nat} (hi:i<c.length):c.getD i default=(par c i:Int)∧par c i≤i:=by
 have:=h i hi
 unfold Go.Vc.par
 omega
def rootN (c:List Int):Nat→Nat→Nat
 | 0,i=>i
 | f+1,i=>if par c i=i then i else rootN c f (par c i)
def rootF (c:List Int) (i:Nat):Nat:=rootN c i i
theorem rootN_fuel {c:List Int} (h:Cls c):∀ (i f g:Nat),i<c.length→i≤f→i≤g→rootN c f i=rootN c g i:=by
 intro i
 induction i using Nat.strongRecOn with
 | _ i ih =>
  intro f g hi hf hg
  have hp:=(h.par hi).2
  cases f with
  | zero =>
   have:i=0:=by omega
   subst this
   cases g with
   | zero=>rfl
   | succ g=>rw [rootN,rootN,if_pos (by omega)]
  | succ f =>
   cases g with
   | zero =>
    have:i=0:=by omega
    subst this
    rw [rootN,rootN,if_pos (by omega)]
   | succ g =>
    rw [rootN,rootN]
    by_cases e:Go.Vc.par c i=i
    ·rw [if_pos e,if_pos e]
    ·rw [if_neg e,if_neg e]
     exact ih _ (by omega) f g (by omega) (by omega) (by omega)
theorem rootF_eq {c:List Int} (h:Cls c) {i:Nat} (hi:i<c.length):rootF c i=if par c i=i then i else rootF c (par c i):=by
 have hp:=(h.par hi).2
 unfold rootF
 cases i with
 | zero=>rw [rootN,if_pos (by omega)]
 | succ i =>
  rw [rootN]
  by_cases e:Go.Vc.par c (i+1)=i+1
  ·rw [if_pos e,if_pos e]
  ·rw [if_neg e,if_neg e]
   exact rootN_fuel h _ _ _ (by omega) (by omega) (Nat.le_refl _)
theorem rootF_unique {c:List Int} (h:Cls c) (f:Nat→Nat) (hf:∀ i,i<c.length→f i=if par c i=i then i else f (par c i)):∀ i,i<c.length→f i=rootF c i:=by
 intro i
 induction i using Nat.strongRecOn with
 | _ i ih =>
  intro hi
  have hp:=(h.par hi).2
  rw [hf i hi,rootF_eq h hi]
  by_cases e:Go.Vc.par c i=i
  ·rw [if_pos e,if_pos e]
  ·rw [if_neg e,if_neg e]
   exact ih _ (by omega) (by omega)
theorem rootF_le {c:List Int} (h:Cls c):∀ i,i<c.length→rootF c i≤i:=by
 intro i
 induction i using Nat.strongRecOn with
 | _ i ih =>
  intro hi
  have hp:=(h.par hi).2
  rw [rootF_eq h hi]
  split
  ·omega
  ·have:=ih (Go.Vc.par c i) (by omega) (by omega);omega
theorem rootF_par {c:List Int} (h:Cls c):∀ i,i<c.length→par c (rootF c i)=rootF c i:=by
 intro i
 induction i using Nat.strongRecOn with
 | _ i ih =>
  intro hi
  have hp:=(h.par hi).2
  rw [rootF_eq h hi]
  split
  ·assumption
  ·exact ih _ (by omega) (by omega)
theorem rootF_self {c:List Int} (h:Cls c) {i:Nat} (hi:i<c.length) (e:par c i=i):rootF c i=i:=by rw [rootF_eq h hi,if_pos e]
theorem rootF_idem {c:List Int} (h:Cls c) {i:Nat} (hi:i<c.length):rootF c (rootF c i)=rootF c i :=
 rootF_self h (by have:=rootF_le h i hi;omega) (rootF_par h i hi)
theorem par_set {c:List Int} {i:Nat} (hi:i<c.length) (v:Nat) (j:Nat):par (c.set i (v:Int)) j=if j=i then v else par c j:=by
 unfold par
 by_cases h:j=i
 ·subst h;simp [List.getD,hi]
 ·rw [if_neg h];simp [List.getD,Ne.symm h]
theorem Cls.set {c:List Int} (h:Cls c) {i v:Nat} (hi:i<c.length) (hv:v≤i):Cls (c.set i (v:Int)):=by
 intro j hj
 rw [List.length_set] at hj
 by_cases e:j=i
 ·subst e;simp [List.getD,hi];omega
 ·have:=h j hj
  have e2:(c.set i (v:Int)).getD j default=c.getD j default:=by simp [List.getD,Ne.symm e]
  rw [e2];exact this
structure Alike (c c':List Int):Prop where
 len:c'.length=c.length
 cls:Cls c'
 root:∀ j,j<c.length→rootF c' j=rootF c j
theorem Alike.refl {c:List Int} (h:Cls c):Alike c c:=⟨rfl,h,fun _ _=>rfl⟩
theorem Alike.trans {c d e:List Int} (h:Alike c d) (k:Alike d e):Alike c e:=⟨k.len.trans h.len,k.cls,fun j hj=>(k.root j (by rw [h.len];exact hj)).trans (h.root j hj)⟩
theorem Alike.halve {c:List Int} (h:Cls c) {i:Nat} (hi:i<c.length):Alike c (c.set i ((par c (par c i):Nat):Int)):=by
 have hp:=(h.par hi).2
 have hp2:=(h.par (i:=Go.Vc.par c i) (by omega)).2
 have hc:=h.set hi (v:=Go.Vc.par c (Go.Vc.par c i)) (by omega)
 refine ⟨by simp,hc,fun j hj=>?_⟩
 refine (rootF_unique hc (rootF c) (fun k hk=>?_) j (by simpa using hj)).symm
 rw [List.length_set] at hk
 rw [par_set hi]
 by_cases e:k=i
 ·subst e
  rw [if_pos rfl]
  by_cases e1:Go.Vc.par c k=k
  ·rw [e1,e1,if_pos rfl];exact rootF_self h hk e1
  ·rw [if_neg (by omega),rootF_eq h hk,if_neg e1]
   rw [rootF_eq h (i:=Go.Vc.par c k) (by omega)]
   by_cases e2:Go.Vc.par c (Go.Vc.par c k)=Go.Vc.par c k
   ·rw [if_pos e2,e2];exact (rootF_self h (by omega) e2).symm
   ·rw [if_neg e2]
 ·rw [if_neg e];exact rootF_eq h hk
theorem root_join {c:List Int} (h:Cls c) {m n:Nat} (hn:n<c.length) (hmn:m≤n) (hrm:par c m=m) (hrn:par c n=n):Cls (c.set n (m:Int))∧∀ j,j<c.length→rootF (c.set n (m:Int)) j=if rootF c j=n then m else rootF c j:=by
 have hc:=h.set hn hmn
 refine ⟨hc,fun j hj=>?_⟩
 refine (rootF_unique hc (fun k=>if rootF c k=n then m else rootF c k) (fun k hk=>?_) j (by simpa using hj)).symm
 rw [List.length_set] at hk
 rw [par_set hn]
 by_cases e:k=n
 ·subst e
  rw [if_pos rfl,rootF_self h hk hrn,if_pos rfl,rootF_self h (show m<c.length by omega) hrm]
  by_cases e2:m=k
  ·rw [if_pos e2];exact e2
  ·rw [if_neg e2,if_neg e2]
 ·rw [if_neg e]
  by_cases e2:Go.Vc.par c k=k
  ·rw [if_pos e2,rootF_self h hk e2,if_neg e]
  ·rw [if_neg e2,rootF_eq h hk,if_neg e2]
structure IsComp (n:Nat) (J:List (Nat×Nat)) (r:Nat→Nat):Prop where
 le:∀ i,i<n→r i≤i
 idem:∀ i,i<n→r (r i)=r i
 join:∀ p∈J,r p.1=r p.2
 keep:∀ f:Nat→Nat,(∀ p∈J,f p.1=f p.2)→∀ i,i<n→f (r i)=f i
theorem IsComp.nil (n:Nat):IsComp n [] (fun i=>i):=⟨fun _ _=>Nat.le_refl _,fun _ _=>rfl,fun _ hp=>absurd hp (List.not_mem_nil),fun _ _ _ _=>rfl⟩
def joinR (r:Nat→Nat) (a b:Nat):Nat→Nat:=fun j=>if r j=max (r a) (r b) then min (r a) (r b) else r j
theorem IsComp.step {n:Nat} {J:List (Nat×Nat)} {r:Nat→Nat} (h:IsComp n J r) {a b:Nat} (ha:a<n) (hb:b<n) (_hJ:∀ p∈J,p.1<n∧p.2<n):IsComp n (J++[(a,b)]) (joinR r a b):=by
 have la:=h.le a ha
 have lb:=h.le b hb
 have ia:=h.idem a ha
 have ib:=h.idem b hb
 have hmin:r (min (r a) (r b))=min (r a) (r b):=by
  rcases Nat.le_total (r a) (r b) with hh | hh
  ·rw [Nat.min_eq_left hh];exact ia
  ·rw [Nat.min_eq_right hh];exact ib
 refine ⟨fun i hi=>?_,fun i hi=>?_,fun p hp=>?_,fun f hf i hi=>?_⟩
 ·have:=h.le i hi
  unfold joinR
  split <;> omega
 ·unfold joinR
  by_cases e:r i=max (r a) (r b)
  ·rw [if_pos e,hmin]
   split <;> omega
  ·rw [if_neg e,h.idem i hi,if_neg e]
 ·rcases List.mem_append.1 hp with hp | hp
  ·unfold joinR;rw [h.join p hp]
  ·rw [List.mem_singleton] at hp
   subst hp
   unfold joinR
   show (if r a=max (r a) (r b) then min (r a) (r b) else r a)=if r b=max (r a) (r b) then min (r a) (r b) else r b
   split <;> split <;> omega
 ·have hfJ:∀ p∈J,f p.1=f p.2:=fun p hp=>hf p (by simp [hp])
  have hab:f a=f b:=hf (a,b) (by simp)
  have k1:=h.keep f hfJ
  unfold joinR
  by_cases e:r i=max (r a) (r b)
  ·rw [if_pos e]
   have ki:=k1 i hi
   have ka:=k1 a ha
   have kb:=k1 b hb
   rcases Nat.le_total (r a) (r b) with hh | hh
   ·rw [Nat.min_eq_left hh,ka,hab,←kb,←ki,e,Nat.max_eq_right hh]
   ·rw [Nat.min_eq_right hh,kb,←hab,←ka,←ki,e,Nat.max_eq_left hh]
  ·rw [if_neg e];exact k1 i hi
def compR:List (Nat×Nat)→Nat→Nat:=fun J=>J.foldl (fun r p=>joinR r p.1 p.2) (fun i=>i)
theorem compR_snoc (J:List (Nat×Nat)) (p:Nat×Nat):compR (J++[p])=joinR (compR J) p.1 p.2:=by simp [compR]
theorem compR_is (n:Nat) (J:List (Nat×Nat)) (hJ:∀ p∈J,p.1<n∧p.2<n):IsComp n J (compR J):=by
 have key:∀ k,k≤J.length→IsComp n (J.take k) (compR (J.take k)):=by
  intro k
  induction k with
  | zero=>intro _;exact IsComp.nil n
  | succ k ih =>
   intro hk
   rw [List.take_succ_eq_append_getElem (by omega),compR_snoc]
   have hm:=hJ _ (List.getElem_mem (show k<J.length by omega))
   exact (ih (by omega)).step hm.1 hm.2 fun p hp=>hJ p (List.mem_of_mem_take hp)
 have:=key J.length (Nat.le_refl _)
 rwa [List.take_length] at this
def prE (e:List Int):List (Nat×Nat):=e.map fun v=>((e.getD 0 default).toNat,v.toNat)
def prsE (E:List (List Int)):List (Nat×Nat):=E.flatMap prE
theorem prsE_mem {E:List (List Int)} {p:Nat×Nat}:p∈prsE E↔∃ e∈E,∃ v∈e,p=((e.getD 0 default).toNat,v.toNat):=by
 unfold prsE prE
 simp only [List.mem_flatMap,List.mem_map]
 constructor
 ·rintro ⟨e,he,v,hv,h⟩;exact ⟨e,he,v,hv,h.symm⟩
 ·rintro ⟨e,he,v,hv,h⟩;exact ⟨e,he,v,hv,h.symm⟩
theorem first_mem {e:List Int} {v:Int} (h:v∈e):e.getD 0 default∈e:=by
 cases e with
 | nil=>cases h
 | cons a e=>simp
theorem prsE_lt {E:List (List Int)} {n:Nat} (h:∀ e∈E,∀ x∈e,0≤x∧x<(n:Int)):∀ p∈prsE E,p.1<n∧p.2<n:=by
 intro p hp
 obtain ⟨e,he,v,hv,rfl⟩:=prsE_mem.1 hp
 have h1:=h e he v hv
 have h2:=h e he _ (first_mem hv)
 exact ⟨by dsimp only;omega,by dsimp only;omega⟩
theorem prsE_same {E:List (List Int)} {f:Nat→Nat}:(∀ p∈prsE E,f p.1=f p.2)↔∀ e∈E,∀ v∈e,∀ w∈e,f v.toNat=f w.toNat:=by
 constructor
 ·intro h e he v hv w hw
  have h1:=h _ (prsE_mem.2 ⟨e,he,v,hv,rfl⟩)
  have h2:=h _ (prsE_mem.2 ⟨e,he,w,hw,rfl⟩)
  exact h1.symm.trans h2
 ·intro h p hp
  obtain ⟨e,he,v,hv,rfl⟩:=prsE_mem.1 hp
  exact h e he _ (first_mem hv) v hv
def compE (E:List (List Int)):Nat→Nat:=compR (prsE E)
theorem compE_is {E:List (List Int)} {n:Nat} (h:∀ e∈E,∀ x∈e,0≤x∧x<(n:Int)):IsComp n (prsE E) (compE E):=compR_is n _ (prsE_lt h)
def memsK (r:Nat→Nat) (k h:Nat):List Int:=((List.range k).filter fun i=>decide (r i=h)).map fun i=>((i:Nat):Int)
def hdsK (r:Nat→Nat) (k:Nat):List Nat:=(List.range k).filter fun h=>decide (r h=h)
def grpsK (r:Nat→Nat) (k:Nat):List (List Int):=(hdsK r k).map (memsK r k)
theorem memsK_succ (r:Nat→Nat) (k h:Nat):memsK r (k+1) h=memsK r k h++if r k=h then [(k:Int)] else []:=by
 unfold memsK
 rw [List.range_succ,List.filter_append,List.map_append]
 congr 1
 by_cases e:r k=h
 ·rw [if_pos e,List.filter_cons_of_pos (by simpa using e)];rfl
 ·rw [if_neg e,List.filter_cons_of_neg (by simpa using e)];rfl
theorem hdsK_succ (r:Nat→Nat) (k:Nat):hdsK r (k+1)=hdsK r k++if r k=k then [k] else []:=by
 unfold hdsK
 rw [List.range_succ,List.filter_append]
 congr 1
 by_cases e:r k=k
 ·rw [if_pos e,List.filter_cons_of_pos (by simpa using e)];rfl
 ·rw [if_neg e,List.filter_cons_of_neg (by simpa using e)];rfl
theorem memsK_mem {r:Nat→Nat} {k h:Nat} {x:Int}:x∈memsK r k h↔∃ i,i<k∧r i=h∧x=(i:Int):=by
 unfold memsK
 simp only [List.mem_map,List.mem_filter,List.mem_range,decide_eq_true_eq]
 constructor
 ·rintro ⟨i,⟨h1,h2⟩,rfl⟩;exact ⟨i,h1,h2,rfl⟩
 ·rintro ⟨i,h1,h2,rfl⟩;exact ⟨i,⟨h1,h2⟩,rfl⟩
theorem hdsK_mem {r:Nat→Nat} {k h:Nat}:h∈hdsK r k↔h<k∧r h=h:=by
 unfold hdsK
 simp [List.mem_filter]
theorem memsK_inc (r:Nat→Nat) (k h:Nat):Inc (memsK r k h):=by
 unfold memsK Inc
 rw [List.pairwise_map]
 refine (List.Pairwise.sublist List.filter_sublist List.pairwise_lt_range).imp ?_
 intro a b h;omega
theorem hdsK_lt (r:Nat→Nat) (k:Nat):(hdsK r k).Pairwise (· < ·):=List.Pairwise.sublist List.filter_sublist List.pairwise_lt_range
def compsG (g:Gr):List (List Int):=if validG g=true then grpsK (compE g.edges) g.n.toNat else []
theorem validG_lt {g:Gr} (h:validG g=true):∀ e∈g.edges,∀ x∈e,0≤x∧x<(g.n.toNat:Int):=fun e he x hx=>by
 have:=((validG_iff.1 h).2.2.1 e he).2.2 x hx
 omega
theorem validG_comp {g:Gr} (h:validG g=true):IsComp g.n.toNat (prsE g.edges) (compE g.edges):=compE_is (validG_lt h)
theorem map_app_set {α β:Type} [DecidableEq α] (f g:α→List β) (x:α) (a:β):∀ (H:List α),H.Nodup→x∈H→(∀ h∈H,g h=f h++if x=h then [a] else [])→H.map g=(H.map f).set (H.idxOf x) (f x++[a]):=by
 intro H
 induction H with
 | nil=>intro _ h _;cases h
 | cons h H ih =>
  intro hn hx hg
  have hn:=List.nodup_cons.1 hn
  by_cases e:x=h
  ·subst e
   rw [List.idxOf_cons_self]
   simp only [List.map_cons,List.set_cons_zero]
   rw [hg x (by simp),if_pos rfl]
   congr 1
   refine List.map_congr_left fun y hy=>?_
   rw [hg y (by simp [hy]),if_neg (fun e:x=y=>hn.1 (by rw [e];exact hy)),List.append_nil]
  ·have hx2:x∈H:=by rcases List.mem_cons.1 hx with h1 | h1;exact absurd h1 e;exact h1
   rw [show (h :: H).idxOf x=H.idxOf x+1 by rw [List.idxOf_cons,show (h == x)=false by simpa using fun h=>e h.symm];rfl]
   simp only [List.map_cons,List.set_cons_succ]
   rw [ih hn.2 hx2 fun y hy=>hg y (by simp [hy]),hg h (by simp),if_neg e,List.append_nil]
theorem hdsK_nodup (r:Nat→Nat) (k:Nat):(hdsK r k).Nodup:=(hdsK_lt r k).imp fun h=>Nat.ne_of_lt h
theorem grpsK_old {r:Nat→Nat} {k:Nat} (h:r k∈hdsK r k):hdsK r (k+1)=hdsK r k∧grpsK r (k+1)=(grpsK r k).set ((hdsK r k).idxOf (r k)) (memsK r k (r k)++[(k:Int)]):=by
 have hk:=hdsK_mem.1 h
 have h1:hdsK r (k+1)=hdsK r k:=by rw [hdsK_succ,if_neg (by omega),List.append_nil]
 refine ⟨h1,?_⟩
 unfold grpsK
 rw [h1]
 exact map_app_set _ _ _ _ _ (hdsK_nodup r k) h fun y _=>memsK_succ r k y
theorem grpsK_new {r:Nat→Nat} {k:Nat} (h:r k=k) (hle:∀ i,i<k→r i≤i):hdsK r (k+1)=hdsK r k++[k]∧k∉hdsK r k∧grpsK r (k+1)=(grpsK r k++[[]]).set (hdsK r k).length [(k:Int)]:=by
 have h1:hdsK r (k+1)=hdsK r k++[k]:=by rw [hdsK_succ,if_pos h]
 have h2:k∉hdsK r k:=fun hh=>by have:=(hdsK_mem.1 hh).1;omega
 refine ⟨h1,h2,?_⟩
 have h3:memsK r k k=[]:=List.eq_nil_iff_forall_not_mem.2 fun x hx=>by
  obtain ⟨i,hi,hr,_⟩:=memsK_mem.1 hx
  have:=hle i hi;omega
 unfold grpsK
 rw [h1,List.map_append,List.set_append_right _ _ (by rw [List.length_map];exact Nat.le_refl _),List.length_map,Nat.sub_self]
 congr 1
 ·refine List.map_congr_left fun y hy=>?_
  have:=(hdsK_mem.1 hy).1
  rw [memsK_succ,if_neg (by omega),List.append_nil]
 ·simp [memsK_succ,h,h3]
theorem grpsK_len (r:Nat→Nat) (k:Nat):(grpsK r k).length=(hdsK r k).length:=by unfold grpsK;rw [List.length_map]
theorem grpsK_at {r:Nat→Nat} {k x:Nat} (h:x∈hdsK r k):(grpsK r k).getD ((hdsK r k).idxOf x) default=memsK r k x:=by
 have hi:(hdsK r k).idxOf x<(hdsK r k).length:=List.idxOf_lt_length_iff.2 h
 unfold grpsK
 simp only [List.getD,List.getElem?_map,List.getElem?_eq_getElem hi,Option.map_some,Option.getD_some]
 rw [List.getElem_idxOf]
def PlaceM (r:Nat→Nat) (k:Nat) (m:List (Int×Nat)):Prop:=∀ h:Nat,tget m (h:Int)=if h∈hdsK r k then some ((hdsK r k).idxOf h) else none
theorem PlaceM.zero (r:Nat→Nat):PlaceM r 0 []:=fun h=>by simp [tget,hdsK]
theorem PlaceM.old {r:Nat→Nat} {k:Nat} {m:List (Int×Nat)} (h:PlaceM r k m) (hk:r k∈hdsK r k):PlaceM r (k+1) m:=by
 unfold PlaceM
 rw [(grpsK_old hk).1];exact h
theorem PlaceM.new {r:Nat→Nat} {k:Nat} {m:List (Int×Nat)} (h:PlaceM r k m) (hk:r k=k) (hle:∀ i,i<k→r i≤i):PlaceM r (k+1) (tset m (k:Int) (hdsK r k).length):=by
 intro x
 obtain ⟨h1,h2,_⟩:=grpsK_new hk hle
 rw [h1,tget_tset]
 by_cases e:x=k
 ·subst e
  rw [if_pos rfl,if_pos (by simp),List.idxOf_append,if_neg h2]
  simp
 ·rw [if_neg (by omega),h x]
  by_cases hx:x∈hdsK r k
  ·rw [if_pos hx,if_pos (by simp [hx]),List.idxOf_append,if_pos hx]
  ·rw [if_neg hx,if_neg (by simp [hx,e])]
theorem memsK_len (r:Nat→Nat) (k h:Nat):(memsK r k h).length≤k:=by
 unfold memsK
 rw [List.length_map]
 exact Nat.le_trans (List.length_filter_le _ _) (by simp)
theorem hdsK_len (r:Nat→Nat) (k:Nat):(hdsK r k).length≤k:=by
 unfold hdsK
 exact Nat.le_trans (List.length_filter_le _ _) (by simp)
theorem getI {l:List Int} {i:Nat} (h:i<l.length):l.getD i default=l[i]:=by simp [List.getD,h]
theorem inc_at {l:List Int} (h:Inc l) {i j:Nat} (hij:i<j) (hj:j<l.length):l.getD i default<l.getD j default:=by
 rw [getI (Nat.lt_trans hij hj),getI hj]
 exact List.pairwise_iff_getElem.1 h i j (Nat.lt_trans hij hj) hj hij
def ixI (vs:List Int) (v:Int):Int:=((vs.findIdx fun x=>decide (x=v):Nat):Int)
theorem ix_find {vs:List Int} {v:Int} (h:v∈vs):(vs.findIdx fun x=>decide (x=v))<vs.length∧vs.getD (vs.findIdx fun x=>decide (x=v)) default=v:=by
 have hl:(vs.findIdx fun x=>decide (x=v))<vs.length:=List.findIdx_lt_length_of_exists ⟨v,h,by simp⟩
 refine ⟨hl,?_⟩
 rw [getI hl]
 have:=List.findIdx_getElem (p:=fun x=>decide (x=v)) (w:=hl)
 simpa using this
theorem ix_at {vs:List Int} {v:Int} (h:v∈vs):0≤ixI vs v∧ixI vs v<vs.length∧vs.getD (ixI vs v).toNat default=v:=by
 have:=ix_find h
 unfold ixI
 refine ⟨by omega,by omega,?_⟩
 rw [Int.toNat_natCast];exact this.2
theorem ix_get {vs:List Int} (hi:Inc vs) {k:Nat} (hk:k<vs.length):ixI vs (vs.getD k default)=(k:Int):=by
 have hm:vs.getD k default∈vs:=by rw [getI hk];exact List.getElem_mem _
 obtain ⟨h1,h2,h3⟩:=ix_at hm
 have:(ixI vs (vs.getD k default)).toNat=k:=by
  rcases Nat.lt_trichotomy (ixI vs (vs.getD k default)).toNat k with h | h | h
  ·have:=inc_at hi h hk;omega
  ·exact h
  ·have:=inc_at hi h (by omega);omega
 omega
theorem ix_lt {vs:List Int} (hi:Inc vs) {v w:Int} (hv:v∈vs) (hw:w∈vs):v<w↔ixI vs v<ixI vs w:=by
 obtain ⟨a1,a2,a3⟩:=ix_at hv
 obtain ⟨b1,b2,b3⟩:=ix_at hw
 constructor
 ·intro h
  rcases Int.lt_trichotomy (ixI vs v) (ixI vs w) with h1 | h1 | h1
  ·exact h1
  ·rw [h1,b3] at a3;omega
  ·have:=inc_at hi (show (ixI vs w).toNat<(ixI vs v).toNat by omega) (by omega)
   rw [a3,b3] at this;omega
 ·intro h
  have:=inc_at hi (show (ixI vs v).toNat<(ixI vs w).toNat by omega) (by omega)
  rwa [a3,b3] at this
theorem ix_inj {vs:List Int} {v w:Int} (hv:v∈vs) (hw:w∈vs) (h:ixI vs v=ixI vs w):v=w:=by
 have a:=(ix_at hv).2.2
 have b:=(ix_at hw).2.2
 rw [h,b] at a;exact a.symm
def partG (g:Gr) (vs:List Int):Gr:=⟨(vs.length:Int),vs.map fun v=>g.cost.getD v.toNat default,(g.edges.filter fun e=>subB e vs).map fun e=>e.map (ixI vs)⟩
def partF (g:Gr) (vs:List Int):Gr×Int:=if validG g=true∧setB vs g.n=true then (partG g vs,0) else (default,1)
theorem part_edges {g:Gr} {vs:List Int} {f:List Int}:f∈(partG g vs).edges↔∃ e∈g.edges,subB e vs=true∧f=e.map (ixI vs):=by
 unfold partG
 simp only [List.mem_map,List.mem_filter]
 constructor
 ·rintro ⟨e,⟨h1,h2⟩,h3⟩;exact ⟨e,h1,h2,h3.symm⟩
 ·rintro ⟨e,h1,h2,h3⟩;exact ⟨e,⟨h1,h2⟩,h3.symm⟩
theorem map_inc {vs:List Int} (hi:Inc vs) {e:List Int} (he:Inc e) (hs:subB e vs=true):Inc (e.map (ixI vs)):=by
 unfold Inc
 rw [List.pairwise_map]
 refine List.Pairwise.imp_of_mem (fun {a b} ha hb h=>?_) he
 exact (ix_lt hi (subB_iff.1 hs a ha) (subB_iff.1 hs b hb)).1 h
theorem map_lex {vs:List Int} (hi:Inc vs):∀ {e f:List Int},(∀ x∈e,x∈vs)→(∀ x∈f,x∈vs)→lexB (e.map (ixI vs)) (f.map (ixI vs))=lexB e f:=by
 intro e
 induction e with
 | nil=>intro f _ _;cases f <;> rfl
 | cons a e ih =>
  intro f he hf
  cases f with
  | nil=>rfl
  | cons b f =>
   have h1:=ix_lt hi (he a (by simp)) (hf b (by simp))
   have h2:=ix_lt hi (hf b (by simp)) (he a (by simp))
   simp only [List.map_cons,lexB]
   rw [ih (fun x hx=>he x (by simp [hx])) (fun x hx=>hf x (by simp [hx]))]
   by_cases h3:a<b
   ·rw [if_pos h3,if_pos (h1.1 h3)]
   ·rw [if_neg h3,if_neg (fun h=>h3 (h1.2 h))]
    by_cases h4:b<a
    ·rw [if_pos h4,if_pos (h2.1 h4)]
    ·rw [if_neg h4,if_neg (fun h=>h4 (h2.2 h))]
theorem map_sub {vs:List Int} {e f:List Int} (he:subB e vs=true) (hf:subB f vs=true):subB (f.map (ixI vs)) (e.map (ixI vs))=subB f e:=by
 have key:subB (f.map (ixI vs)) (e.map (ixI vs))=true↔subB f e=true:=by
  rw [subB_iff,subB_iff]
  constructor
  ·intro h x hx
   obtain ⟨y,hy,e1⟩:=List.mem_map.1 (h _ (List.mem_map_of_mem hx))
   have:=ix_inj (subB_iff.1 he y hy) (subB_iff.1 hf x hx) e1
   exact this▸hy
  ·intro h x hx
   obtain ⟨y,hy,rfl⟩:=List.mem_map.1 hx
   exact List.mem_map_of_mem (h y hy)
 cases h1:subB (f.map (ixI vs)) (e.map (ixI vs)) <;> cases h2:subB f e <;> simp_all
theorem set_len {vs:List Int} {n:Int} (h:Inc vs) (hr:∀ x∈vs,0≤x∧x<n) (hn:0≤n):(vs.length:Int)≤n:=by
 have:=nodup_sub (a:=vs) (b:=(List.range n.toNat).map fun i=>((i:Nat):Int)) (inc_nodup h) fun x hx=>by
  have:=hr x hx
  exact List.mem_map.2 ⟨x.toNat,by simp;omega,by omega⟩
 simp at this;omega
theorem part_valid {g:Gr} {vs:List Int} (hg:validG g=true) (hv:setB vs g.n=true):validG (partG g vs)=true:=by
 obtain ⟨c1,c2,c3,c4,c5⟩:=validG_iff2.1 hg
 obtain ⟨v1,v2⟩:=setB_iff.1 hv
 obtain ⟨k1,k2,k3,k4⟩:=costB_iff.1 c1
 have hlen:=set_len v1 v2 k1
 rw [validG_iff2]
 refine ⟨?_,?_,fun f hf=>?_,?_,fun f hf f' hf' hs=>?_⟩
 ·rw [costB_iff]
  refine ⟨by show (0:Int)≤(vs.length:Int);omega,by show (vs.length:Int)≤4000;omega,by simp [partG],fun c hc=>?_⟩
  obtain ⟨v,hm,rfl⟩:=List.mem_map.1 hc
  have:=v2 v hm
  have hl:v.toNat<g.cost.length:=by omega
  exact k4 _ (by rw [getI hl];exact List.getElem_mem _)
 ·unfold partG
  rw [List.length_map]
  exact Nat.le_trans (List.length_filter_le _ _) c2
 ·obtain ⟨e,he,hs,rfl⟩:=part_edges.1 hf
  obtain ⟨e1,e2,e3⟩:=c3 e he
  refine ⟨fun h=>e1 (List.map_eq_nil_iff.1 h),map_inc v1 e2 hs,fun x hx=>?_⟩
  obtain ⟨y,hy,rfl⟩:=List.mem_map.1 hx
  have:=ix_at (subB_iff.1 hs y hy)
  exact ⟨this.1,this.2.1⟩
 ·unfold partG Up
  rw [List.pairwise_map]
  refine List.Pairwise.imp_of_mem (fun {a b} ha hb h=>?_) (List.Pairwise.filter _ c4)
  rw [map_lex v1 (subB_iff.1 (List.mem_filter.1 ha).2) (subB_iff.1 (List.mem_filter.1 hb).2)]
  exact h
 ·obtain ⟨e,he,hse,rfl⟩:=part_edges.1 hf
  obtain ⟨e',he',hse',rfl⟩:=part_edges.1 hf'
  rw [map_sub hse hse'] at hs
  rw [c5 e he e' he' hs]
def inK (vs s:List Int) (k:Nat):List Int:=((List.range k).filter fun i=>decide (vs.getD i default∈s)).map fun i=>((i:Nat):Int)
theorem inK_succ (vs s:List Int) (k:Nat):inK vs s (k+1)=inK vs s k++if vs.getD k default∈s then [(k:Int)] else []:=by
 unfold inK
 rw [List.range_succ,List.filter_append,List.map_append]
 congr 1
 by_cases h:vs.getD k default∈s
 ·rw [if_pos h,List.filter_cons_of_pos (by simpa using h)];rfl
 ·rw [if_neg h,List.filter_cons_of_neg (by simpa using h)];rfl
theorem inK_mem {vs s:List Int} {k:Nat} {x:Int}:x∈inK vs s k↔∃ i,i<k∧vs.getD i default∈s∧x=(i:Int):=by
 unfold inK
 simp only [List.mem_map,List.mem_filter,List.mem_range,decide_eq_true_eq]
 constructor
 ·rintro ⟨i,⟨h1,h2⟩,rfl⟩;exact ⟨i,h1,h2,rfl⟩
 ·rintro ⟨i,h1,h2,rfl⟩;exact ⟨i,⟨h1,h2⟩,rfl⟩
theorem inK_inc (vs s:List Int) (k:Nat):Inc (inK vs s k):=by
 unfold inK Inc
 rw [List.pairwise_map]
 refine (List.Pairwise.sublist List.filter_sublist List.pairwise_lt_range).imp ?_
 intro a b h;omega
theorem comps_mem {g:Gr} (hg:validG g=true) {vs:List Int}:vs∈compsG g↔∃ h,h<g.n.toNat∧compE g.edges h=h∧vs=memsK (compE g.edges) g.n.toNat h:=by
 unfold compsG grpsK
 rw [if_pos hg,List.mem_map]
 constructor
 ·rintro ⟨h,hh,rfl⟩;exact ⟨h,(hdsK_mem.1 hh).1,(hdsK_mem.1 hh).2,rfl⟩
 ·rintro ⟨h,h1,h2,rfl⟩;exact ⟨h,hdsK_mem.2 ⟨h1,h2⟩,rfl⟩
theorem comps_set {g:Gr} (hg:validG g=true) {vs:List Int} (h:vs∈compsG g):setB vs g.n=true:=by
 obtain ⟨x,_,_,rfl⟩:=(comps_mem hg).1 h
 rw [setB_iff]
 refine ⟨memsK_inc _ _ _,fun y hy=>?_⟩
 obtain ⟨i,hi,_,rfl⟩:=memsK_mem.1 hy
 omega
theorem edge_in {g:Gr} (hg:validG g=true) {e:List Int} (he:e∈g.edges):∃ vs∈compsG g,subB e vs=true:=by
 have hc:=validG_comp hg
 have hlt:=validG_lt hg e he
 have hne:=((validG_iff.1 hg).2.2.1 e he).1
 have hsame:=(prsE_same (E:=g.edges) (f:=compE g.edges)).1 hc.join e he
 have hf:e.getD 0 default∈e:=by
  cases e with
  | nil=>exact absurd rfl hne
  | cons a e=>simp
 have h0:=hlt _ hf
 have hl:=hc.le (e.getD 0 default).toNat (by omega)
 refine ⟨_,(comps_mem hg).2 ⟨compE g.edges (e.getD 0 default).toNat,by omega,hc.idem _ (by omega),rfl⟩,subB_iff.2 fun v hv=>?_⟩
 have hv0:=hlt v hv
 exact memsK_mem.2 ⟨v.toNat,by omega,hsame v hv _ hf,by omega⟩
def inE (E:List (List Int)) (v:Int):Bool:=E.any fun e=>decide (v∈e)
theorem inE_iff {E:List (List Int)} {v:Int}:inE E v=true↔∃ e∈E,v∈e:=by simp [inE]
def freeK (E:List (List Int)) (k:Nat):List Int:=((List.range k).filter fun i=>!inE E (i:Nat)).map fun i=>((i:Nat):Int)
def aloneK (E:List (List Int)) (k:Nat):List Int:=((List.range k).filter fun i=>decide ([((i:Nat):Int)]∈E)).map fun i=>((i:Nat):Int)
theorem freeK_succ (E:List (List Int)) (k:Nat):freeK E (k+1)=freeK E k++if inE E (k:Nat)=false then [(k:Int)] else []:=by
 unfold freeK
 rw [List.range_succ,List.filter_append,List.map_append]
 congr 1
 cases h:inE E (k:Nat) <;> simp [List.filter,h]
theorem aloneK_mem {E:List (List Int)} {k:Nat} {x:Int}:x∈aloneK E k↔0≤x∧x<k∧[x]∈E:=by
 unfold aloneK
 simp only [List.mem_map,List.mem_filter,List.mem_range,decide_eq_true_eq]
 constructor
 ·rintro ⟨i,⟨h1,h2⟩,rfl⟩;exact ⟨by omega,by omega,h2⟩
 ·rintro ⟨h1,h2,h3⟩;exact ⟨x.toNat,⟨by omega,by rw [show ((x.toNat:Nat):Int)=x by omega];exact h3⟩,by omega⟩
theorem filt_inc (p:Nat→Bool) (k:Nat):Inc (((List.range k).filter p).map fun i=>((i:Nat):Int)):=by
 unfold Inc
 rw [List.pairwise_map]
 refine (List.Pairwise.sublist List.filter_sublist List.pairwise_lt_range).imp ?_
 intro a b h;omega
theorem aloneK_inc (E:List (List Int)) (k:Nat):Inc (aloneK E k):=filt_inc _ k
def aloneE (E:List (List Int)):List Int:=E.filterMap fun e=>if e.length=1 then some (e.getD 0 default) else none
theorem aloneE_mem {E:List (List Int)} {x:Int}:x∈aloneE E↔[x]∈E:=by
 unfold aloneE
 rw [List.mem_filterMap]
 constructor
 ·rintro ⟨e,he,h⟩
  split at h
  ·rename_i h1
   injection h with h
   match e,h1 with
   | [a],_=>simp at h;subst h;exact he
  ·cases h
 ·intro h;exact ⟨[x],h,rfl⟩
theorem aloneE_inc:∀ {E:List (List Int)},Up lexB E→Inc (aloneE E):=by
 intro E
 induction E with
 | nil=>intro _;exact List.Pairwise.nil
 | cons e E ih =>
  intro h
  have h':=List.pairwise_cons.1 h
  have hi:=ih h'.2
  unfold aloneE
  rw [List.filterMap_cons]
  by_cases h1:e.length=1
  ·rw [if_pos h1]
   refine List.pairwise_cons.2 ⟨fun y hy=>?_,hi⟩
   have hm:=h'.1 _ (aloneE_mem.1 hy)
   match e,h1 with
   | [a],_ =>
    show a<y
    simp only [lexB] at hm
    by_cases h2:a<y
    ·exact h2
    ·rw [if_neg h2] at hm
     split at hm <;> cases hm
  ·rw [if_neg h1];exact hi
theorem alone_eq {g:Gr} (hg:validG g=true):aloneE g.edges=aloneK g.edges g.n.toNat:=by
 obtain ⟨_,_,c3,c4,_⟩:=validG_iff2.1 hg
 refine inc_ext (aloneE_inc c4) (aloneK_inc _ _) fun x=>?_
 rw [aloneE_mem,aloneK_mem]
 constructor
 ·intro h
  have:=(c3 _ h).2.2 x (by simp)
  exact ⟨this.1,by omega,h⟩
 ·exact fun h=>h.2.2
def fixF (g:Gr):List Int×List Int:=if validG g=true then (freeK g.edges g.n.toNat,aloneK g.edges g.n.toNat) else ([],[])
def aboveB (e:List Int) (out:List (List Int)):Bool:=out.any fun f=>subB f e
theorem aboveB_iff {e:List Int} {out:List (List Int)}:aboveB e out=true↔∃ f∈out,subB f e=true:=by simp [aboveB]
def minStep (out:List (List Int)) (e:List Int):List (List Int):=if aboveB e out=true then out else out++[e]
def minFold (l:List (List Int)):List (List Int):=l.foldl minStep []
theorem minFold_snoc (l:List (List Int)) (e:List Int):minFold (l++[e])=minStep (minFold l) e:=by simp [minFold]
structure MinJ (p out:List (List Int)):Prop where
 mem:∀ e,e∈out↔e∈p∧∀ f∈p,subB f e=true→f=e
 nodup:out.Nodup
theorem MinJ.below {p out:List (List Int)} (h:MinJ p out) (hi:∀ e∈p,Inc e∧e≠[]):∀ (n:Nat) (e:List Int),e.length≤n→e∈p→∃ f∈out,subB f e=true:=by
 intro n
 induction n with
 | zero =>
  intro e hn he
  exact absurd (List.eq_nil_of_length_eq_zero (by omega)) (hi e he).2
 | succ n ih =>
  intro e hn he
  by_cases hh:∃ f∈p,subB f e=true∧f≠e
  ·obtain ⟨f,hf,hs,hne⟩:=hh
   have h1:=hi f hf
   have h2:=hi e he
   have hl:f.length<e.length:=by
    have:=subB_len h1.1 hs
    by_cases hq:e.length≤f.length
    ·exact absurd (subB_eq h1.1 h2.1 hs hq) hne
    ·omega
   obtain ⟨g,hg,hgs⟩:=ih f (by omega) hf
   exact ⟨g,hg,subB_trans hgs hs⟩
  ·refine ⟨e,(h.mem e).2 ⟨he,fun f hf hs=>?_⟩,subB_refl e⟩
   exact Classical.byContradiction fun hne=>hh ⟨f,hf,hs,hne⟩
theorem MinJ.step {p out:List (List Int)} {e:List Int} (h:MinJ p out) (hi:∀ x∈p,Inc x∧x≠[]) (he:Inc e∧e≠[]) (hl:∀ x∈p,x.length≤e.length):MinJ (p++[e]) (minStep out e):=by
 unfold minStep
 cases ha:aboveB e out with
 | true =>
  rw [if_pos rfl]
  obtain ⟨f,hf,hfe⟩:=aboveB_iff.1 ha
  have hfp:=(h.mem f).1 hf
  refine ⟨fun x=>?_,h.nodup⟩
  constructor
  ·intro hx
   obtain ⟨h1,h2⟩:=(h.mem x).1 hx
   refine ⟨List.mem_append_left _ h1,fun y hy hs=>?_⟩
   rcases List.mem_append.1 hy with hy | hy
   ·exact h2 y hy hs
   ·rw [List.mem_singleton] at hy
    subst hy
    have:=h2 f hfp.1 (subB_trans hfe hs)
    subst this
    exact subB_anti he.1 (hi _ h1).1 hs hfe
  ·rintro ⟨h1,h2⟩
   have hfe':f=e∨x∈p:=by
    rcases List.mem_append.1 h1 with h3 | h3
    ·exact .inr h3
    ·rw [List.mem_singleton] at h3
     subst h3
     exact .inl (h2 f (List.mem_append_left _ hfp.1) hfe)
   have hxp:x∈p:=by
    rcases hfe' with h3 | h3
    ·rcases List.mem_append.1 h1 with h4 | h4
     ·exact h4
     ·rw [List.mem_singleton] at h4;rw [h4,←h3];exact hfp.1
    ·exact h3
   exact (h.mem x).2 ⟨hxp,fun y hy hs=>h2 y (List.mem_append_left _ hy) hs⟩
 | false =>
  rw [if_neg (by decide)]
  have hno:∀ f∈p,subB f e=false:=fun f hf=>by
   cases hs:subB f e with
   | false=>rfl
   | true =>
    obtain ⟨g,hg,hgf⟩:=h.below hi _ f (Nat.le_refl _) hf
    rw [aboveB_iff.2 ⟨g,hg,subB_trans hgf hs⟩] at ha;cases ha
  have hep:e∉p:=fun hm=>by have:=hno e hm;rw [subB_refl] at this;cases this
  refine ⟨fun x=>?_,?_⟩
  ·constructor
   ·intro hx
    rcases List.mem_append.1 hx with hx | hx
    ·obtain ⟨h1,h2⟩:=(h.mem x).1 hx
     refine ⟨List.mem_append_left _ h1,fun y hy hs=>?_⟩
     rcases List.mem_append.1 hy with hy | hy
     ·exact h2 y hy hs
     ·rw [List.mem_singleton] at hy
      subst hy
      exact subB_eq he.1 (hi x h1).1 hs (hl x h1)
    ·rw [List.mem_singleton] at hx
     subst hx
     refine ⟨by simp,fun y hy hs=>?_⟩
     rcases List.mem_append.1 hy with hy | hy
     ·rw [hno y hy] at hs;cases hs
     ·rw [List.mem_singleton] at hy;exact hy
   ·rintro ⟨h1,h2⟩
    rcases List.mem_append.1 h1 with h3 | h3
    ·exact List.mem_append_left _ ((h.mem x).2 ⟨h3,fun y hy hs=>h2 y (List.mem_append_left _ hy) hs⟩)
    ·exact List.mem_append_right _ h3
  ·rw [List.nodup_append]
   refine ⟨h.nodup,by simp,fun a ha' b hb e1=>?_⟩
   rw [List.mem_singleton] at hb
   subst hb;subst e1
   exact hep ((h.mem a).1 ha').1
theorem minFold_ok {l:List (List Int)} (hi:∀ e∈l,Inc e∧e≠[]) (hs:l.Pairwise fun a b=>a.length≤b.length):∀ k,k≤l.length→MinJ (l.take k) (minFold (l.take k)):=by
 intro k
 induction k with
 | zero=>intro _;exact ⟨fun e=>by simp [minFold],by simp [minFold]⟩
 | succ k ih =>
  intro hk
  rw [List.take_succ_eq_append_getElem (by omega),minFold_snoc]
  refine (ih (by omega)).step (fun x hx=>hi x (List.mem_of_mem_take hx)) (hi _ (List.getElem_mem _)) fun x hx=>?_
  obtain ⟨i,h1,rfl⟩:=List.getElem_of_mem hx
  rw [List.getElem_take]
  rw [List.length_take] at h1
  exact List.pairwise_iff_getElem.1 hs i k (by omega) (by omega) (by omega)
theorem minFold_min {E l m:List (List Int)} (hp:∀ e,e∈l↔e∈setsOf E) (hs:l.Pairwise fun a b=>a.length≤b.length) (hm:m.Perm (minFold l)) (ho:m.Pairwise fun a b=>lexB b a=false):m=minF E:=by
 have hi:∀ e∈l,Inc e∧e≠[]:=fun e he=>setsOf_inc ((hp e).1 he)
 have h:=minFold_ok hi hs l.length (Nat.le_refl _)
 rw [List.take_length] at h
 have hn:m.Nodup:=hm.nodup_iff.2 h.nodup
 refine Up.ext lexB_sto ?_ (minF_up E) fun e=>?_
 ·unfold Up
  refine List.Pairwise.imp₂ (R:=fun a b=>lexB b a=false) (S:=fun a b=>a≠b) (fun {a b} h1 h2=>?_) ho hn
  cases h3:lexB a b with
  | true=>rfl
  | false=>exact absurd (lexB_sto.tot a b h3 h1) h2
 ·rw [hm.mem_iff,h.mem,minF_mem,hp]
  exact and_congr_right fun _=>⟨fun hh f hf=>hh f ((hp f).2 hf),fun hh f hf=>hh f ((hp f).1 hf)⟩
end Go.Vc

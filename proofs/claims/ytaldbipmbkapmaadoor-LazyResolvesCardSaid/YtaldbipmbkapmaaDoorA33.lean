/- LEMMAS: rows of things, each behind its parts, read as trees. Conditions: none. -/
namespace Go.Abs
set_option linter.unusedVariables false
set_option linter.unusedSimpArgs false
inductive Tr (α:Type) where
 | nd (a:α) (l:List (Tr α))
namespace Tr
variable {α:Type}
def top:Tr α→α
 | .nd a _=>a
mutual
def size:Tr α→Nat
 | .nd _ l=>sizes l+1
def sizes:List (Tr α)→Nat
 | []=>0
 | t :: l=>t.size+sizes l
end
mutual
def post:Tr α→List α
 | .nd a l=>posts l ++ [a]
def posts:List (Tr α)→List α
 | []=>[]
 | t :: l=>t.post ++ posts l
end
mutual
def deep:Tr α→Nat
 | .nd _ l=>deeps l+1
def deeps:List (Tr α)→Nat
 | []=>0
 | t :: l=>max t.deep (deeps l)
end
mutual
def fronts (p:Nat):Tr α→List Nat
 | .nd _ l=>frontss p l ++ [p]
def frontss (p:Nat):List (Tr α)→List Nat
 | []=>[]
 | t :: l=>t.fronts p ++ frontss (p+t.size) l
end
def starts (p:Nat):List (Tr α)→List Nat
 | []=>[]
 | t :: l=>p :: starts (p+t.size) l
def ends (p:Nat):List (Tr α)→List Nat
 | []=>[]
 | t :: l=>(p+t.size - 1) :: ends (p+t.size) l
mutual
theorem post_length:∀t:Tr α,t.post.length=t.size
 | .nd a l=>by simp [post,size,posts_length l]
theorem posts_length:∀l:List (Tr α),(posts l).length=sizes l
 | []=>by simp [posts,sizes]
 | t :: l=>by simp [posts,sizes,post_length t,posts_length l]
end
mutual
theorem fronts_length:∀(p:Nat) (t:Tr α),(t.fronts p).length=t.size
 | p,.nd a l=>by simp [fronts,size,frontss_length p l]
theorem frontss_length:∀(p:Nat) (l:List (Tr α)),(frontss p l).length=sizes l
 | _,[]=>by simp [frontss,sizes]
 | p,t :: l=>by simp [frontss,sizes,fronts_length p t,frontss_length _ l]
end
mutual
theorem deep_le_size:∀t:Tr α,t.deep≤t.size
 | .nd a l=>by have:=deeps_le_sizes l; simp only [deep,size]; omega
theorem deeps_le_sizes:∀l:List (Tr α),deeps l≤sizes l
 | []=>by simp [deeps]
 | t :: l=>by have:=deep_le_size t; have:=deeps_le_sizes l; simp only [deeps,sizes]; omega
end
theorem size_pos (t:Tr α):0<t.size:=by cases t; simp [size]
theorem starts_length:∀(p:Nat) (l:List (Tr α)),(starts p l).length=l.length
 | _,[]=>rfl
 | p,t :: l=>by simp [starts,starts_length _ l]
theorem ends_length:∀(p:Nat) (l:List (Tr α)),(ends p l).length=l.length
 | _,[]=>rfl
 | p,t :: l=>by simp [ends,ends_length _ l]
theorem sizes_append:∀l m:List (Tr α),sizes (l ++ m)=sizes l+sizes m
 | [],m=>by simp [sizes]
 | t :: l,m=>by simp [sizes,sizes_append l m]; omega
theorem posts_append:∀l m:List (Tr α),posts (l ++ m)=posts l ++ posts m
 | [],m=>by simp [posts]
 | t :: l,m=>by simp [posts,posts_append l m]
theorem deeps_append:∀l m:List (Tr α),deeps (l ++ m)=max (deeps l) (deeps m)
 | [],m=>by simp [deeps]
 | t :: l,m=>by simp only [List.cons_append,deeps,deeps_append l m]; omega
theorem starts_append:∀(p:Nat) (l m:List (Tr α)),starts p (l ++ m)=starts p l ++ starts (p+sizes l) m
 | p,[],m=>by simp [starts,sizes]
 | p,t :: l,m=>by simp [starts,sizes,starts_append _ l m,Nat.add_assoc]
theorem frontss_append:∀(p:Nat) (l m:List (Tr α)),frontss p (l ++ m)=frontss p l ++ frontss (p+sizes l) m
 | p,[],m=>by simp [frontss,sizes]
 | p,t :: l,m=>by simp [frontss,sizes,frontss_append _ l m,Nat.add_assoc]
theorem le_sizes:∀{l:List (Tr α)} {t:Tr α},t∈l→t.size≤sizes l
 | s :: l,t,h=>by
  simp only [List.mem_cons] at h
  rcases h with rfl|h
  ·simp [sizes]
  ·have:=le_sizes h; simp [sizes]; omega
theorem length_le_sizes:∀l:List (Tr α),l.length≤sizes l
 | []=>by simp [sizes]
 | t :: l=>by have:=length_le_sizes l; have:=size_pos t; simp [sizes]; omega
theorem starts_take:∀(p k:Nat) (l:List (Tr α)),(starts p l).take k=starts p (l.take k)
 | _,0,_=>by simp [starts]
 | _,_+1,[]=>by simp [starts]
 | p,k+1,t :: l=>by simp [starts,starts_take _ k l]
theorem starts_get:∀{p k:Nat} {l:List (Tr α)},k<l.length→(starts p l)[k]?=some (p+sizes (l.take k))
 | p,0,t :: l,_=>by simp [starts,sizes]
 | p,k+1,t :: l,h=>by
  have:=starts_get (p:=p+t.size) (k:=k) (l:=l) (by simpa using h)
  simp [starts,sizes,this,Nat.add_assoc]
theorem deeps_nil:deeps ([]:List (Tr α))=0:=by simp [deeps]
theorem deeps_one {t:Tr α}:deeps [t]=t.deep:=by simp [deeps]
theorem deeps_drop {l:List (Tr α)} {k:Nat} (h:k<l.length):deeps (l.drop k)=max (l[k].deep) (deeps (l.drop (k+1))):=by
 rw [List.drop_eq_getElem_cons h]; simp [deeps]
theorem deeps_take {l:List (Tr α)} {k:Nat} (h:k<l.length):deeps (l.take (k+1))=max (deeps (l.take k)) (l[k].deep):=by
 rw [List.take_succ_eq_append_getElem h,deeps_append,deeps_one]
theorem deeps_take_le (l:List (Tr α)) (k:Nat):deeps (l.take k)≤deeps l:=by
 conv=>rhs; rw [←List.take_append_drop k l]
 rw [deeps_append]; omega
theorem deeps_drop_le (l:List (Tr α)) (k:Nat):deeps (l.drop k)≤deeps l:=by
 conv=>rhs; rw [←List.take_append_drop k l]
 rw [deeps_append]; omega
section
variable (ok:α→Bool) (ar:α→Int)
def put (st:List (Tr α)) (a:α):Option (List (Tr α)):=
 if ok a=true∧0≤ar a∧ar a≤st.length then some (st.take (st.length - (ar a).toNat) ++ [.nd a (st.drop (st.length - (ar a).toNat))]) else none
def read:List (Tr α)→List α→Option (List (Tr α))
 | st,[]=>some st
 | st,a :: l=>match put ok ar st a with
  | some st'=>read st' l
  | none=>none
mutual
def good:Tr α→Prop
 | .nd a l=>(ok a=true∧ar a=(l.length:Int))∧goods l
def goods:List (Tr α)→Prop
 | []=>True
 | t :: l=>t.good∧goods l
end
variable {ok ar}
theorem goods_append:∀{l m:List (Tr α)},goods ok ar (l ++ m)↔goods ok ar l∧goods ok ar m
 | [],m=>by simp [goods]
 | t :: l,m=>by simp [goods,goods_append (l:=l),and_assoc]
theorem goods_mem:∀{l:List (Tr α)} {t:Tr α},goods ok ar l→t∈l→good ok ar t
 | s :: l,t,h,hm=>by
  simp only [List.mem_cons] at hm
  simp only [goods] at h
  rcases hm with rfl|hm
  ·exact h.1
  ·exact goods_mem h.2 hm
theorem put_some {st st':List (Tr α)} {a:α} (h:put ok ar st a=some st'):
  ok a=true∧∃n:Nat,ar a=(n:Int)∧n≤st.length∧st'=st.take (st.length - n) ++ [.nd a (st.drop (st.length - n))]:=by
 unfold put at h
 split at h
 ·rename_i hc
  cases h
  exact ⟨hc.1,(ar a).toNat,by omega,by omega,rfl⟩
 ·cases h
theorem put_of {st:List (Tr α)} {a:α} {n:Nat} (h1:ok a=true) (h2:ar a=(n:Int)) (h3:n≤st.length):put ok ar st a=some (st.take (st.length - n) ++ [.nd a (st.drop (st.length - n))]):=by
 unfold put
 rw [if_pos ⟨h1,by omega,by omega⟩,h2]
 simp
theorem put_posts {st st':List (Tr α)} {a:α} (h:put ok ar st a=some st'):posts st'=posts st ++ [a]:=by
 obtain ⟨_,n,_,_,rfl⟩:=put_some h
 rw [posts_append]
 simp only [posts,post,List.append_nil]
 rw [←List.append_assoc,←posts_append,List.take_append_drop]
theorem put_goods {st st':List (Tr α)} {a:α} (hs:goods ok ar st) (h:put ok ar st a=some st'):goods ok ar st':=by
 obtain ⟨h1,n,h2,h3,rfl⟩:=put_some h
 have hs':=hs
 rw [←List.take_append_drop (st.length - n) st,goods_append] at hs'
 rw [goods_append]
 refine ⟨hs'.1,⟨⟨h1,?_⟩,hs'.2⟩,trivial⟩
 rw [h2,List.length_drop]; congr 1; omega
theorem read_posts:∀{l:List α} {st st':List (Tr α)},read ok ar st l=some st'→posts st'=posts st ++ l
 | [],st,st',h=>by simp only [read,Option.some.injEq] at h; subst h; simp
 | a :: l,st,st',h=>by
  simp only [read] at h
  split at h
  ·rename_i s1 h1
   rw [read_posts h,put_posts h1,List.append_assoc]; rfl
  ·cases h
theorem read_goods:∀{l:List α} {st st':List (Tr α)},goods ok ar st→read ok ar st l=some st'→goods ok ar st'
 | [],st,st',hs,h=>by simp only [read,Option.some.injEq] at h; subst h; exact hs
 | a :: l,st,st',hs,h=>by
  simp only [read] at h
  split at h
  ·rename_i s1 h1; exact read_goods (put_goods hs h1) h
  ·cases h
theorem read_append:∀{l m:List α} {st:List (Tr α)},read ok ar st (l ++ m)=(read ok ar st l).bind fun s=>read ok ar s m
 | [],m,st=>by simp [read]
 | a :: l,m,st=>by
  simp only [List.cons_append,read]
  split
  ·exact read_append
  ·rfl
theorem read_snoc {l:List α} {a:α} {st:List (Tr α)}:read ok ar st (l ++ [a])=(read ok ar st l).bind fun s=>put ok ar s a:=by
 rw [read_append]
 congr 1
 funext s
 simp only [read]
 cases put ok ar s a <;> rfl
mutual
theorem read_post:∀{t:Tr α} {st:List (Tr α)},good ok ar t→read ok ar st t.post=some (st ++ [t])
 | .nd a l,st,h=>by
  simp only [good] at h
  obtain ⟨⟨h1,h2⟩,h3⟩:=h
  rw [post,read_snoc,read_post_list h3]
  simp only [Option.bind_some]
  rw [put_of h1 h2 (by simp)]
  have:(st ++ l).length - l.length=st.length:=by simp
  rw [this]
  simp
theorem read_post_list:∀{l:List (Tr α)} {st:List (Tr α)},goods ok ar l→read ok ar st (posts l)=some (st ++ l)
 | [],st,_=>by simp [posts,read]
 | t :: l,st,h=>by
  simp only [goods] at h
  rw [posts,read_append,read_post h.1]
  simp only [Option.bind_some]
  rw [read_post_list h.2]
  simp
end
theorem read_one {l:List α} {t:Tr α} (h:read ok ar [] l=some [t]):l=t.post∧good ok ar t:=by
 have h1:=read_posts h
 have h2:=read_goods (by simp [goods]) h
 simp only [posts,List.append_nil,List.nil_append,goods,and_true] at h1 h2
 exact ⟨h1.symm,h2⟩
theorem read_sizes {l:List α} {st:List (Tr α)} (h:read ok ar [] l=some st):sizes st=l.length:=by
 have:=read_posts h
 simp only [posts,List.nil_append] at this
 rw [←posts_length,this]
theorem read_take_none {l:List α} {i:Nat} (h:read ok ar [] (l.take i)=none):read ok ar [] l=none:=by
 conv=>lhs; rw [←List.take_append_drop i l]
 rw [read_append,h]; rfl
theorem read_take_succ {l:List α} {i:Nat} {st:List (Tr α)} (hi:i<l.length) (h:read ok ar [] (l.take i)=some st):read ok ar [] (l.take (i+1))=put ok ar st l[i]:=by
 rw [List.take_succ_eq_append_getElem hi,read_snoc,h]; rfl
theorem put_none {st:List (Tr α)} {a:α} (h:¬(ok a=true∧0≤ar a∧ar a≤st.length)):put ok ar st a=none:=by
 unfold put; rw [if_neg h]
end
end Tr
end Go.Abs

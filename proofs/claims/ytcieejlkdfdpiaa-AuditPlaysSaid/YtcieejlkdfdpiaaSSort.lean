/- Written by program (gen.py): what the code of some functions asks, part by part; each text is checked by the kernel against the translation. -/
import Derived.Test.YtcieejlkdfdpiaaSh
import Derived.Test.YtcieejlkdfdpiaaChecked
namespace Go.Proofs.Ytcieejlkdfdpiaa
open Go.RowKit
set_option maxRecDepth 100000


theorem slices_Sort_uint64_uint64_k {K : KV} {x0 : Value} {w : World}
    (h : blt Try.prog Builtin.len #[47] 3 #[false] #[x0] (fun A1 w =>
    conv Try.prog 3 56 A1 (fun A5 w =>
    call Try.prog 25 #[A5] (fun A6 w =>
    call Try.prog 24 #[x0, (Value.int IntKind.i64 0), A1, A6] (fun A7 w =>
    K (Value.tuple #[]) w) w) w) w) w) :
    cCode Try.prog (cd Try.f23 []) (retK Try.prog Try.f23.results.toList K) (fun _ _ _ => False) (retK Try.prog Try.f23.results.toList K) [x0, undef, undef, undef, undef, undef, undef, undef, undef, undef, undef] w := Eq.mp (by kernel_rfl) h

theorem slices_Sort_uint64_uint64_in {K : KV} {x0 : Value} {w : World}
    (h : blt Try.prog Builtin.len #[47] 3 #[false] #[x0] (fun A1 w =>
    conv Try.prog 3 56 A1 (fun A5 w =>
    call Try.prog 25 #[A5] (fun A6 w =>
    call Try.prog 24 #[x0, (Value.int IntKind.i64 0), A1, A6] (fun A7 w =>
    K (Value.tuple #[]) w) w) w) w) w) :
    Gives Try.prog 23 #[x0] w K := enter' Try.func23 (by kernel_rfl) (Eq.mp (congrArg (fun c => cCode Try.prog c (retK Try.prog Try.f23.results.toList K) (fun _ _ _ => False) (retK Try.prog Try.f23.results.toList K) [x0, undef, undef, undef, undef, undef, undef, undef, undef, undef, undef] w) (by kernel_rfl : (cd Try.f23 []) = (cd Try.f23 []))) (slices_Sort_uint64_uint64_k h))
theorem slices_Sort_uint64_uint64_go : isGo Try.prog 23 := ⟨_, Try.func23, by kernel_rfl, by kernel_rfl⟩

def slices_pdqsortOrdered_uint64_L1 (K : KV) : KE := cCode Try.prog (cd Try.f24 [1, 1, 0]) (retK Try.prog Try.f24.results.toList K) (fun i => @Bool.rec (fun _ => KE) ((fun _ _ _ => False) i) (retK Try.prog Try.f24.results.toList K) (Nat.beq i 0)) (retK Try.prog Try.f24.results.toList K)
def slices_pdqsortOrdered_uint64_P1 (K : KV) (B1 : KE) : KE := cCode Try.prog (cd Try.f24 [1, 1, 0, 0, 0, 1, 1, 1, 1]) B1 (fun i => @Bool.rec (fun _ => KE) ((fun i => @Bool.rec (fun _ => KE) ((fun _ _ _ => False) i) (retK Try.prog Try.f24.results.toList K) (Nat.beq i 0)) i) B1 (Nat.beq i 1)) (retK Try.prog Try.f24.results.toList K)
def slices_pdqsortOrdered_uint64_A1 (K : KV) (B1 : KE) : KE := cCode Try.prog (cd Try.f24 [1, 1, 0, 0, 0, 1, 1, 1, 0, 1]) (slices_pdqsortOrdered_uint64_P1 K B1) (fun i => @Bool.rec (fun _ => KE) ((fun i => @Bool.rec (fun _ => KE) ((fun _ _ _ => False) i) (retK Try.prog Try.f24.results.toList K) (Nat.beq i 0)) i) B1 (Nat.beq i 1)) (retK Try.prog Try.f24.results.toList K)
def slices_pdqsortOrdered_uint64_P2 (K : KV) (B1 : KE) : KE := cCode Try.prog (cd Try.f24 [1, 1, 0, 0, 0, 1, 1, 1, 1, 1, 1]) B1 (fun i => @Bool.rec (fun _ => KE) ((fun i => @Bool.rec (fun _ => KE) ((fun _ _ _ => False) i) (retK Try.prog Try.f24.results.toList K) (Nat.beq i 0)) i) B1 (Nat.beq i 1)) (retK Try.prog Try.f24.results.toList K)
def slices_pdqsortOrdered_uint64_A2 (K : KV) (B1 : KE) : KE := cCode Try.prog (cd Try.f24 [1, 1, 0, 0, 0, 1, 1, 1, 1, 1, 0, 1]) (slices_pdqsortOrdered_uint64_P2 K B1) (fun i => @Bool.rec (fun _ => KE) ((fun i => @Bool.rec (fun _ => KE) ((fun _ _ _ => False) i) (retK Try.prog Try.f24.results.toList K) (Nat.beq i 0)) i) B1 (Nat.beq i 1)) (retK Try.prog Try.f24.results.toList K)
def slices_pdqsortOrdered_uint64_P3 (K : KV) (B1 : KE) : KE := cCode Try.prog (cd Try.f24 [1, 1, 0, 0, 0, 1, 1, 1, 1, 1, 1, 1]) B1 (fun i => @Bool.rec (fun _ => KE) ((fun i => @Bool.rec (fun _ => KE) ((fun _ _ _ => False) i) (retK Try.prog Try.f24.results.toList K) (Nat.beq i 0)) i) B1 (Nat.beq i 1)) (retK Try.prog Try.f24.results.toList K)
def slices_pdqsortOrdered_uint64_A3 (K : KV) (B1 : KE) : KE := cCode Try.prog (cd Try.f24 [1, 1, 0, 0, 0, 1, 1, 1, 1, 1, 1, 0, 1]) (slices_pdqsortOrdered_uint64_P3 K B1) (fun i => @Bool.rec (fun _ => KE) ((fun i => @Bool.rec (fun _ => KE) ((fun _ _ _ => False) i) (retK Try.prog Try.f24.results.toList K) (Nat.beq i 0)) i) B1 (Nat.beq i 1)) (retK Try.prog Try.f24.results.toList K)
def slices_pdqsortOrdered_uint64_A4 (K : KV) (B1 : KE) : KE := cCode Try.prog (cd Try.f24 [1, 1, 0, 0, 0, 1, 1, 1, 1, 1, 1, 1, 1, 1]) B1 (fun i => @Bool.rec (fun _ => KE) ((fun i => @Bool.rec (fun _ => KE) ((fun _ _ _ => False) i) (retK Try.prog Try.f24.results.toList K) (Nat.beq i 0)) i) B1 (Nat.beq i 1)) (retK Try.prog Try.f24.results.toList K)
theorem slices_pdqsortOrdered_uint64_k {K : KV} {data0 a1 b2 limit3 : Value} {w : World}
    (h : (cCode Try.prog (cd Try.f24 [1, 1, 0]) (retK Try.prog Try.f24.results.toList K) (fun i => @Bool.rec (fun _ => KE) ((fun _ _ _ => False) i) (retK Try.prog Try.f24.results.toList K) (Nat.beq i 0)) (retK Try.prog Try.f24.results.toList K)) (data0::a1::b2::limit3::undef::undef::undef::undef::(Value.bool true)::(Value.bool true)::undef::undef::undef::undef::undef::undef::undef::undef::undef::undef::undef::undef::undef::undef::undef::undef::undef::undef::undef::undef::undef::undef::undef::undef::undef::undef::undef::undef::undef::undef::undef::undef::undef::undef::undef::undef::undef::undef::undef::undef::undef::undef::undef::undef::undef::undef::undef::undef::undef::undef::undef::undef::undef::undef::undef::undef::undef::undef::undef::undef::undef::undef::undef::undef::undef::undef::undef::undef::undef::undef::undef::undef::undef::undef::undef::undef::undef::undef::undef::undef::undef::undef::undef::undef::undef::undef::undef::undef::undef::undef::undef::undef::undef::undef::undef::undef::undef::undef::undef::undef::undef::undef::undef::undef::undef::undef::undef::undef::undef::undef::undef::undef::undef::undef::undef::undef::undef::undef::undef::undef::undef::undef::undef::undef::[]) w) :
    cCode Try.prog (cd Try.f24 []) (retK Try.prog Try.f24.results.toList K) (fun _ _ _ => False) (retK Try.prog Try.f24.results.toList K) (data0::a1::b2::limit3::undef::undef::undef::undef::undef::undef::undef::undef::undef::undef::undef::undef::undef::undef::undef::undef::undef::undef::undef::undef::undef::undef::undef::undef::undef::undef::undef::undef::undef::undef::undef::undef::undef::undef::undef::undef::undef::undef::undef::undef::undef::undef::undef::undef::undef::undef::undef::undef::undef::undef::undef::undef::undef::undef::undef::undef::undef::undef::undef::undef::undef::undef::undef::undef::undef::undef::undef::undef::undef::undef::undef::undef::undef::undef::undef::undef::undef::undef::undef::undef::undef::undef::undef::undef::undef::undef::undef::undef::undef::undef::undef::undef::undef::undef::undef::undef::undef::undef::undef::undef::undef::undef::undef::undef::undef::undef::undef::undef::undef::undef::undef::undef::undef::undef::undef::undef::undef::undef::undef::undef::undef::undef::undef::undef::undef::undef::undef::undef::undef::undef::[]) w := Eq.mp (by kernel_rfl) h

theorem slices_pdqsortOrdered_uint64_in {K : KV} {data0 a1 b2 limit3 : Value} {w : World}
    (h : (slices_pdqsortOrdered_uint64_L1 K) (data0::a1::b2::limit3::undef::undef::undef::undef::(Value.bool true)::(Value.bool true)::undef::undef::undef::undef::undef::undef::undef::undef::undef::undef::undef::undef::undef::undef::undef::undef::undef::undef::undef::undef::undef::undef::undef::undef::undef::undef::undef::undef::undef::undef::undef::undef::undef::undef::undef::undef::undef::undef::undef::undef::undef::undef::undef::undef::undef::undef::undef::undef::undef::undef::undef::undef::undef::undef::undef::undef::undef::undef::undef::undef::undef::undef::undef::undef::undef::undef::undef::undef::undef::undef::undef::undef::undef::undef::undef::undef::undef::undef::undef::undef::undef::undef::undef::undef::undef::undef::undef::undef::undef::undef::undef::undef::undef::undef::undef::undef::undef::undef::undef::undef::undef::undef::undef::undef::undef::undef::undef::undef::undef::undef::undef::undef::undef::undef::undef::undef::undef::undef::undef::undef::undef::undef::undef::undef::[]) w) :
    Gives Try.prog 24 #[data0, a1, b2, limit3] w K := enter' Try.func24 (by kernel_rfl) (Eq.mp (congrArg (fun c => cCode Try.prog c (retK Try.prog Try.f24.results.toList K) (fun _ _ _ => False) (retK Try.prog Try.f24.results.toList K) (data0::a1::b2::limit3::undef::undef::undef::undef::undef::undef::undef::undef::undef::undef::undef::undef::undef::undef::undef::undef::undef::undef::undef::undef::undef::undef::undef::undef::undef::undef::undef::undef::undef::undef::undef::undef::undef::undef::undef::undef::undef::undef::undef::undef::undef::undef::undef::undef::undef::undef::undef::undef::undef::undef::undef::undef::undef::undef::undef::undef::undef::undef::undef::undef::undef::undef::undef::undef::undef::undef::undef::undef::undef::undef::undef::undef::undef::undef::undef::undef::undef::undef::undef::undef::undef::undef::undef::undef::undef::undef::undef::undef::undef::undef::undef::undef::undef::undef::undef::undef::undef::undef::undef::undef::undef::undef::undef::undef::undef::undef::undef::undef::undef::undef::undef::undef::undef::undef::undef::undef::undef::undef::undef::undef::undef::undef::undef::undef::undef::undef::undef::undef::undef::undef::[]) w) (by kernel_rfl : (cd Try.f24 []) = (cd Try.f24 []))) (slices_pdqsortOrdered_uint64_k h))
theorem slices_pdqsortOrdered_uint64_go : isGo Try.prog 24 := ⟨_, Try.func24, by kernel_rfl, by kernel_rfl⟩

theorem slices_pdqsortOrdered_uint64_L1_k {K : KV} (B1 : KE) (xc0 : Code) {data0 a1' b2' limit3' data4 a5 b6 limit7 wasBalanced8' wasPartitioned9' H0' H3' H4' I3' I4' I5' I6' I7' I8' I9' J0' J1' J2' J3' : Value} {dd : Nat → Value} {w : World}
    (h : bin Try.prog BinOp.sub 3 false false b2' a1' (fun C8 w =>
    bin Try.prog BinOp.leq 3 false true C8 (Value.int IntKind.i64 12) (fun D0 w =>
    cond D0
      (call Try.prog 26 #[data0, a1', b2'] (fun D4 w =>
      K (Value.tuple #[]) w) w)
      (bin Try.prog BinOp.eql 3 false true limit3' (Value.int IntKind.i64 0) (fun D6 w =>
    cond D6
      (call Try.prog 27 #[data0, a1', b2'] (fun E0 w =>
      K (Value.tuple #[]) w) w)
      (un Try.prog UnOp.not wasBalanced8' (fun E2 w =>
    (cCode Try.prog xc0 (cCode Try.prog (cd Try.f24 [1, 1, 0, 0, 0, 1, 1, 1, 1]) B1 (fun i => @Bool.rec (fun _ => KE) ((fun i => @Bool.rec (fun _ => KE) ((fun _ _ _ => False) i) (retK Try.prog Try.f24.results.toList K) (Nat.beq i 0)) i) B1 (Nat.beq i 1)) (retK Try.prog Try.f24.results.toList K)) (fun i => @Bool.rec (fun _ => KE) ((fun i => @Bool.rec (fun _ => KE) ((fun _ _ _ => False) i) (retK Try.prog Try.f24.results.toList K) (Nat.beq i 0)) i) B1 (Nat.beq i 1)) (retK Try.prog Try.f24.results.toList K)) (data0::a1'::b2'::limit3'::data4::a5::b6::limit7::wasBalanced8'::wasPartitioned9'::C8::(dd 11)::(dd 12)::(dd 13)::(dd 14)::(dd 15)::(dd 16)::(dd 17)::(dd 18)::b2'::a1'::C8::C8::D0::(dd 24)::(dd 25)::(dd 26)::(dd 27)::limit3'::D6::(dd 30)::(dd 31)::(dd 32)::(dd 33)::wasBalanced8'::E2::(dd 36)::(dd 37)::(dd 38)::(dd 39)::(dd 40)::(dd 41)::(dd 42)::(dd 43)::(dd 44)::(dd 45)::(dd 46)::(dd 47)::(dd 48)::(dd 49)::(dd 50)::(dd 51)::(dd 52)::(dd 53)::(dd 54)::(dd 55)::(dd 56)::(dd 57)::(dd 58)::(dd 59)::(dd 60)::(dd 61)::(dd 62)::H0'::(dd 64)::(dd 65)::H3'::H4'::(dd 68)::(dd 69)::(dd 70)::(dd 71)::(dd 72)::(dd 73)::(dd 74)::(dd 75)::I3'::I4'::I5'::I6'::I7'::I8'::I9'::J0'::J1'::J2'::J3'::(dd 87)::(dd 88)::(dd 89)::(dd 90)::(dd 91)::(dd 92)::(dd 93)::(dd 94)::(dd 95)::(dd 96)::(dd 97)::(dd 98)::(dd 99)::(dd 100)::(dd 101)::(dd 102)::(dd 103)::(dd 104)::(dd 105)::(dd 106)::(dd 107)::(dd 108)::(dd 109)::(dd 110)::(dd 111)::(dd 112)::(dd 113)::(dd 114)::(dd 115)::(dd 116)::(dd 117)::(dd 118)::(dd 119)::(dd 120)::(dd 121)::(dd 122)::(dd 123)::(dd 124)::(dd 125)::(dd 126)::(dd 127)::(dd 128)::(dd 129)::(dd 130)::(dd 131)::(dd 132)::(dd 133)::[]) w) w)) w)) w) w) :
    cCode Try.prog (rep [0, 1, 1, 1, 0, 1] xc0 (cd Try.f24 [1, 1, 0, 0])) B1 (fun i => @Bool.rec (fun _ => KE) ((fun _ _ _ => False) i) (retK Try.prog Try.f24.results.toList K) (Nat.beq i 0)) (retK Try.prog Try.f24.results.toList K) (data0::a1'::b2'::limit3'::data4::a5::b6::limit7::wasBalanced8'::wasPartitioned9'::(dd 10)::(dd 11)::(dd 12)::(dd 13)::(dd 14)::(dd 15)::(dd 16)::(dd 17)::(dd 18)::(dd 19)::(dd 20)::(dd 21)::(dd 22)::(dd 23)::(dd 24)::(dd 25)::(dd 26)::(dd 27)::(dd 28)::(dd 29)::(dd 30)::(dd 31)::(dd 32)::(dd 33)::(dd 34)::(dd 35)::(dd 36)::(dd 37)::(dd 38)::(dd 39)::(dd 40)::(dd 41)::(dd 42)::(dd 43)::(dd 44)::(dd 45)::(dd 46)::(dd 47)::(dd 48)::(dd 49)::(dd 50)::(dd 51)::(dd 52)::(dd 53)::(dd 54)::(dd 55)::(dd 56)::(dd 57)::(dd 58)::(dd 59)::(dd 60)::(dd 61)::(dd 62)::H0'::(dd 64)::(dd 65)::H3'::H4'::(dd 68)::(dd 69)::(dd 70)::(dd 71)::(dd 72)::(dd 73)::(dd 74)::(dd 75)::I3'::I4'::I5'::I6'::I7'::I8'::I9'::J0'::J1'::J2'::J3'::(dd 87)::(dd 88)::(dd 89)::(dd 90)::(dd 91)::(dd 92)::(dd 93)::(dd 94)::(dd 95)::(dd 96)::(dd 97)::(dd 98)::(dd 99)::(dd 100)::(dd 101)::(dd 102)::(dd 103)::(dd 104)::(dd 105)::(dd 106)::(dd 107)::(dd 108)::(dd 109)::(dd 110)::(dd 111)::(dd 112)::(dd 113)::(dd 114)::(dd 115)::(dd 116)::(dd 117)::(dd 118)::(dd 119)::(dd 120)::(dd 121)::(dd 122)::(dd 123)::(dd 124)::(dd 125)::(dd 126)::(dd 127)::(dd 128)::(dd 129)::(dd 130)::(dd 131)::(dd 132)::(dd 133)::[]) w := Eq.mp (by kernel_rfl) h

section
variable {data0 a1 b2 limit3 data4 a5 b6 limit7 wasBalanced8 wasPartitioned9 length10 pivot11 hint12 mid13 mid14 alreadyPartitioned15 leftLen16 rightLen17 balanceThreshold18 C6 C7 C8 C9 D0 D1 D2 D3 D4 D5 D6 D7 D8 D9 E0 E1 E2 E3 E4 E5 E6 E7 E8 E9 F0 F1 F2 F3 F4 F5 F6 F7 F8 F9 G0 G1 G2 G3 G4 G5 G6 G7 G8 G9 H0 H1 H2 H3 H4 H5 H6 H7 H8 H9 I0 I1 I2 I3 I4 I5 I6 I7 I8 I9 J0 J1 J2 J3 J4 J5 J6 J7 J8 J9 L0 L1 L2 L3 L4 L5 L6 L7 L8 L9 M0 M1 M2 M3 M4 M5 M6 M7 M8 M9 N0 N1 N2 N3 N4 N5 N6 N7 N8 N9 O0 O1 O2 O3 O4 O5 O6 O7 O8 O9 P0 : Value}
theorem slices_pdqsortOrdered_uint64_L1_r {K : KV} {w : World} (Inv : Value → Value → Value → Value → Value → Value → Value → Value → Value → Value → Value → Value → Value → Value → Value → Value → Value → Value → Value → World → Prop) (μ : Value → Value → Value → Value → Value → Value → Value → Value → Value → Value → Value → Value → Value → Value → Value → Value → Value → Value → Value → World → Nat) (h0 : Inv a1 b2 limit3 wasBalanced8 wasPartitioned9 H0 H3 H4 I3 I4 I5 I6 I7 I8 I9 J0 J1 J2 J3 w)
    (hs : ∀ (a1' b2' limit3' wasBalanced8' wasPartitioned9' H0' H3' H4' I3' I4' I5' I6' I7' I8' I9' J0' J1' J2' J3' : Value) (dd : Nat → Value) (w : World) (m : Nat), Inv a1' b2' limit3' wasBalanced8' wasPartitioned9' H0' H3' H4' I3' I4' I5' I6' I7' I8' I9' J0' J1' J2' J3' w → m = μ a1' b2' limit3' wasBalanced8' wasPartitioned9' H0' H3' H4' I3' I4' I5' I6' I7' I8' I9' J0' J1' J2' J3' w →
    bin Try.prog BinOp.sub 3 false false b2' a1' (fun C8 w =>
    bin Try.prog BinOp.leq 3 false true C8 (Value.int IntKind.i64 12) (fun D0 w =>
    cond D0
      (call Try.prog 26 #[data0, a1', b2'] (fun D4 w =>
      K (Value.tuple #[]) w) w)
      (bin Try.prog BinOp.eql 3 false true limit3' (Value.int IntKind.i64 0) (fun D6 w =>
    cond D6
      (call Try.prog 27 #[data0, a1', b2'] (fun E0 w =>
      K (Value.tuple #[]) w) w)
      (un Try.prog UnOp.not wasBalanced8' (fun E2 w =>
    (slices_pdqsortOrdered_uint64_A1 K (fun e2 w2 => Inv (gd e2 1) (gd e2 2) (gd e2 3) (gd e2 8) (gd e2 9) (gd e2 63) (gd e2 66) (gd e2 67) (gd e2 76) (gd e2 77) (gd e2 78) (gd e2 79) (gd e2 80) (gd e2 81) (gd e2 82) (gd e2 83) (gd e2 84) (gd e2 85) (gd e2 86) w2 ∧ μ (gd e2 1) (gd e2 2) (gd e2 3) (gd e2 8) (gd e2 9) (gd e2 63) (gd e2 66) (gd e2 67) (gd e2 76) (gd e2 77) (gd e2 78) (gd e2 79) (gd e2 80) (gd e2 81) (gd e2 82) (gd e2 83) (gd e2 84) (gd e2 85) (gd e2 86) w2 < m)) (data0::a1'::b2'::limit3'::data4::a5::b6::limit7::wasBalanced8'::wasPartitioned9'::C8::(dd 11)::(dd 12)::(dd 13)::(dd 14)::(dd 15)::(dd 16)::(dd 17)::(dd 18)::b2'::a1'::C8::C8::D0::(dd 24)::(dd 25)::(dd 26)::(dd 27)::limit3'::D6::(dd 30)::(dd 31)::(dd 32)::(dd 33)::wasBalanced8'::E2::(dd 36)::(dd 37)::(dd 38)::(dd 39)::(dd 40)::(dd 41)::(dd 42)::(dd 43)::(dd 44)::(dd 45)::(dd 46)::(dd 47)::(dd 48)::(dd 49)::(dd 50)::(dd 51)::(dd 52)::(dd 53)::(dd 54)::(dd 55)::(dd 56)::(dd 57)::(dd 58)::(dd 59)::(dd 60)::(dd 61)::(dd 62)::H0'::(dd 64)::(dd 65)::H3'::H4'::(dd 68)::(dd 69)::(dd 70)::(dd 71)::(dd 72)::(dd 73)::(dd 74)::(dd 75)::I3'::I4'::I5'::I6'::I7'::I8'::I9'::J0'::J1'::J2'::J3'::(dd 87)::(dd 88)::(dd 89)::(dd 90)::(dd 91)::(dd 92)::(dd 93)::(dd 94)::(dd 95)::(dd 96)::(dd 97)::(dd 98)::(dd 99)::(dd 100)::(dd 101)::(dd 102)::(dd 103)::(dd 104)::(dd 105)::(dd 106)::(dd 107)::(dd 108)::(dd 109)::(dd 110)::(dd 111)::(dd 112)::(dd 113)::(dd 114)::(dd 115)::(dd 116)::(dd 117)::(dd 118)::(dd 119)::(dd 120)::(dd 121)::(dd 122)::(dd 123)::(dd 124)::(dd 125)::(dd 126)::(dd 127)::(dd 128)::(dd 129)::(dd 130)::(dd 131)::(dd 132)::(dd 133)::[]) w) w)) w)) w) w) :
    slices_pdqsortOrdered_uint64_L1 K (data0::a1::b2::limit3::data4::a5::b6::limit7::wasBalanced8::wasPartitioned9::length10::pivot11::hint12::mid13::mid14::alreadyPartitioned15::leftLen16::rightLen17::balanceThreshold18::C6::C7::C8::C9::D0::D1::D2::D3::D4::D5::D6::D7::D8::D9::E0::E1::E2::E3::E4::E5::E6::E7::E8::E9::F0::F1::F2::F3::F4::F5::F6::F7::F8::F9::G0::G1::G2::G3::G4::G5::G6::G7::G8::G9::H0::H1::H2::H3::H4::H5::H6::H7::H8::H9::I0::I1::I2::I3::I4::I5::I6::I7::I8::I9::J0::J1::J2::J3::J4::J5::J6::J7::J8::J9::L0::L1::L2::L3::L4::L5::L6::L7::L8::L9::M0::M1::M2::M3::M4::M5::M6::M7::M8::M9::N0::N1::N2::N3::N4::N5::N6::N7::N8::N9::O0::O1::O2::O3::O4::O5::O6::O7::O8::O9::P0::[]) w := by
  refine loop_rule (cd Try.f24 [1, 1, 0, 0]) [1, 2, 3, 8, 9, 10, 11, 12, 13, 14, 15, 16, 17, 18, 19, 20, 21, 22, 23, 24, 25, 26, 27, 28, 29, 30, 31, 32, 33, 34, 35, 36, 37, 38, 39, 40, 41, 42, 43, 44, 45, 46, 47, 48, 49, 50, 51, 52, 53, 54, 55, 56, 57, 58, 59, 60, 61, 62, 63, 64, 65, 66, 67, 68, 69, 70, 71, 72, 73, 74, 75, 76, 77, 78, 79, 80, 81, 82, 83, 84, 85, 86, 87, 88, 89, 90, 91, 92, 93, 94, 95, 96, 97, 98, 99, 100, 101, 102, 103, 104, 105, 106, 107, 108, 109, 110, 111, 112, 113, 114, 115, 116, 117, 118, 119, 120, 121, 122, 123, 124, 125, 126, 127, 128, 129, 130, 131, 132, 133] (by kernel_rfl) (fun e2 w2 => Inv (gd e2 1) (gd e2 2) (gd e2 3) (gd e2 8) (gd e2 9) (gd e2 63) (gd e2 66) (gd e2 67) (gd e2 76) (gd e2 77) (gd e2 78) (gd e2 79) (gd e2 80) (gd e2 81) (gd e2 82) (gd e2 83) (gd e2 84) (gd e2 85) (gd e2 86) w2) (fun e2 w2 => μ (gd e2 1) (gd e2 2) (gd e2 3) (gd e2 8) (gd e2 9) (gd e2 63) (gd e2 66) (gd e2 67) (gd e2 76) (gd e2 77) (gd e2 78) (gd e2 79) (gd e2 80) (gd e2 81) (gd e2 82) (gd e2 83) (gd e2 84) (gd e2 85) (gd e2 86) w2) h0 ?_
  intro e' w' hI
  have h := hs (gd e' 1) (gd e' 2) (gd e' 3) (gd e' 8) (gd e' 9) (gd e' 63) (gd e' 66) (gd e' 67) (gd e' 76) (gd e' 77) (gd e' 78) (gd e' 79) (gd e' 80) (gd e' 81) (gd e' 82) (gd e' 83) (gd e' 84) (gd e' 85) (gd e' 86) (fun i => gd e' i) w' _ hI rfl
  have h2 : cCode Try.prog (rep [0, 1, 1, 1, 0, 1] (cd Try.f24 [1, 1, 0, 0, 0, 1, 1, 1, 0, 1]) (cd Try.f24 [1, 1, 0, 0])) (fun e2 w2 => Inv (gd e2 1) (gd e2 2) (gd e2 3) (gd e2 8) (gd e2 9) (gd e2 63) (gd e2 66) (gd e2 67) (gd e2 76) (gd e2 77) (gd e2 78) (gd e2 79) (gd e2 80) (gd e2 81) (gd e2 82) (gd e2 83) (gd e2 84) (gd e2 85) (gd e2 86) w2 ∧ μ (gd e2 1) (gd e2 2) (gd e2 3) (gd e2 8) (gd e2 9) (gd e2 63) (gd e2 66) (gd e2 67) (gd e2 76) (gd e2 77) (gd e2 78) (gd e2 79) (gd e2 80) (gd e2 81) (gd e2 82) (gd e2 83) (gd e2 84) (gd e2 85) (gd e2 86) w2 < μ (gd e' 1) (gd e' 2) (gd e' 3) (gd e' 8) (gd e' 9) (gd e' 63) (gd e' 66) (gd e' 67) (gd e' 76) (gd e' 77) (gd e' 78) (gd e' 79) (gd e' 80) (gd e' 81) (gd e' 82) (gd e' 83) (gd e' 84) (gd e' 85) (gd e' 86) w') (fun i => @Bool.rec (fun _ => KE) ((fun _ _ _ => False) i) (retK Try.prog Try.f24.results.toList K) (Nat.beq i 0)) (retK Try.prog Try.f24.results.toList K) (data0::(gd e' 1)::(gd e' 2)::(gd e' 3)::data4::a5::b6::limit7::(gd e' 8)::(gd e' 9)::(gd e' 10)::(gd e' 11)::(gd e' 12)::(gd e' 13)::(gd e' 14)::(gd e' 15)::(gd e' 16)::(gd e' 17)::(gd e' 18)::(gd e' 19)::(gd e' 20)::(gd e' 21)::(gd e' 22)::(gd e' 23)::(gd e' 24)::(gd e' 25)::(gd e' 26)::(gd e' 27)::(gd e' 28)::(gd e' 29)::(gd e' 30)::(gd e' 31)::(gd e' 32)::(gd e' 33)::(gd e' 34)::(gd e' 35)::(gd e' 36)::(gd e' 37)::(gd e' 38)::(gd e' 39)::(gd e' 40)::(gd e' 41)::(gd e' 42)::(gd e' 43)::(gd e' 44)::(gd e' 45)::(gd e' 46)::(gd e' 47)::(gd e' 48)::(gd e' 49)::(gd e' 50)::(gd e' 51)::(gd e' 52)::(gd e' 53)::(gd e' 54)::(gd e' 55)::(gd e' 56)::(gd e' 57)::(gd e' 58)::(gd e' 59)::(gd e' 60)::(gd e' 61)::(gd e' 62)::(gd e' 63)::(gd e' 64)::(gd e' 65)::(gd e' 66)::(gd e' 67)::(gd e' 68)::(gd e' 69)::(gd e' 70)::(gd e' 71)::(gd e' 72)::(gd e' 73)::(gd e' 74)::(gd e' 75)::(gd e' 76)::(gd e' 77)::(gd e' 78)::(gd e' 79)::(gd e' 80)::(gd e' 81)::(gd e' 82)::(gd e' 83)::(gd e' 84)::(gd e' 85)::(gd e' 86)::(gd e' 87)::(gd e' 88)::(gd e' 89)::(gd e' 90)::(gd e' 91)::(gd e' 92)::(gd e' 93)::(gd e' 94)::(gd e' 95)::(gd e' 96)::(gd e' 97)::(gd e' 98)::(gd e' 99)::(gd e' 100)::(gd e' 101)::(gd e' 102)::(gd e' 103)::(gd e' 104)::(gd e' 105)::(gd e' 106)::(gd e' 107)::(gd e' 108)::(gd e' 109)::(gd e' 110)::(gd e' 111)::(gd e' 112)::(gd e' 113)::(gd e' 114)::(gd e' 115)::(gd e' 116)::(gd e' 117)::(gd e' 118)::(gd e' 119)::(gd e' 120)::(gd e' 121)::(gd e' 122)::(gd e' 123)::(gd e' 124)::(gd e' 125)::(gd e' 126)::(gd e' 127)::(gd e' 128)::(gd e' 129)::(gd e' 130)::(gd e' 131)::(gd e' 132)::(gd e' 133)::[]) w' := slices_pdqsortOrdered_uint64_L1_k (fun e2 w2 => Inv (gd e2 1) (gd e2 2) (gd e2 3) (gd e2 8) (gd e2 9) (gd e2 63) (gd e2 66) (gd e2 67) (gd e2 76) (gd e2 77) (gd e2 78) (gd e2 79) (gd e2 80) (gd e2 81) (gd e2 82) (gd e2 83) (gd e2 84) (gd e2 85) (gd e2 86) w2 ∧ μ (gd e2 1) (gd e2 2) (gd e2 3) (gd e2 8) (gd e2 9) (gd e2 63) (gd e2 66) (gd e2 67) (gd e2 76) (gd e2 77) (gd e2 78) (gd e2 79) (gd e2 80) (gd e2 81) (gd e2 82) (gd e2 83) (gd e2 84) (gd e2 85) (gd e2 86) w2 < μ (gd e' 1) (gd e' 2) (gd e' 3) (gd e' 8) (gd e' 9) (gd e' 63) (gd e' 66) (gd e' 67) (gd e' 76) (gd e' 77) (gd e' 78) (gd e' 79) (gd e' 80) (gd e' 81) (gd e' 82) (gd e' 83) (gd e' 84) (gd e' 85) (gd e' 86) w') (cd Try.f24 [1, 1, 0, 0, 0, 1, 1, 1, 0, 1]) (Eq.mp (by kernel_rfl) h)
  exact Eq.mp (by kernel_rfl) h2

theorem slices_pdqsortOrdered_uint64_A1_k {K : KV} (B1 : KE) (qc0 : KE) {w : World}
    (h : cond E2
      (call Try.prog 28 #[data0, a1, b2] (fun E6 w =>
      bin Try.prog BinOp.sub 3 false true limit3 (Value.int IntKind.i64 1) (fun E8 w =>
      qc0 (data0::a1::b2::E8::data4::a5::b6::limit7::wasBalanced8::wasPartitioned9::length10::pivot11::hint12::mid13::mid14::alreadyPartitioned15::leftLen16::rightLen17::balanceThreshold18::C6::C7::C8::C9::D0::D1::D2::D3::D4::D5::D6::D7::D8::D9::E0::E1::E2::data0::a1::b2::E6::limit3::E8::E9::F0::F1::F2::F3::F4::F5::F6::F7::F8::F9::G0::G1::G2::G3::G4::G5::G6::G7::G8::G9::H0::H1::H2::H3::H4::H5::H6::H7::H8::H9::I0::I1::I2::I3::I4::I5::I6::I7::I8::I9::J0::J1::J2::J3::J4::J5::J6::J7::J8::J9::L0::L1::L2::L3::L4::L5::L6::L7::L8::L9::M0::M1::M2::M3::M4::M5::M6::M7::M8::M9::N0::N1::N2::N3::N4::N5::N6::N7::N8::N9::O0::O1::O2::O3::O4::O5::O6::O7::O8::O9::P0::[]) w) w) w)
      (qc0 (data0::a1::b2::limit3::data4::a5::b6::limit7::wasBalanced8::wasPartitioned9::length10::pivot11::hint12::mid13::mid14::alreadyPartitioned15::leftLen16::rightLen17::balanceThreshold18::C6::C7::C8::C9::D0::D1::D2::D3::D4::D5::D6::D7::D8::D9::E0::E1::E2::E3::E4::E5::E6::E7::E8::E9::F0::F1::F2::F3::F4::F5::F6::F7::F8::F9::G0::G1::G2::G3::G4::G5::G6::G7::G8::G9::H0::H1::H2::H3::H4::H5::H6::H7::H8::H9::I0::I1::I2::I3::I4::I5::I6::I7::I8::I9::J0::J1::J2::J3::J4::J5::J6::J7::J8::J9::L0::L1::L2::L3::L4::L5::L6::L7::L8::L9::M0::M1::M2::M3::M4::M5::M6::M7::M8::M9::N0::N1::N2::N3::N4::N5::N6::N7::N8::N9::O0::O1::O2::O3::O4::O5::O6::O7::O8::O9::P0::[]) w)) :
    cCode Try.prog (cd Try.f24 [1, 1, 0, 0, 0, 1, 1, 1, 0, 1]) qc0 (fun i => @Bool.rec (fun _ => KE) ((fun i => @Bool.rec (fun _ => KE) ((fun _ _ _ => False) i) (retK Try.prog Try.f24.results.toList K) (Nat.beq i 0)) i) B1 (Nat.beq i 1)) (retK Try.prog Try.f24.results.toList K) (data0::a1::b2::limit3::data4::a5::b6::limit7::wasBalanced8::wasPartitioned9::length10::pivot11::hint12::mid13::mid14::alreadyPartitioned15::leftLen16::rightLen17::balanceThreshold18::C6::C7::C8::C9::D0::D1::D2::D3::D4::D5::D6::D7::D8::D9::E0::E1::E2::E3::E4::E5::E6::E7::E8::E9::F0::F1::F2::F3::F4::F5::F6::F7::F8::F9::G0::G1::G2::G3::G4::G5::G6::G7::G8::G9::H0::H1::H2::H3::H4::H5::H6::H7::H8::H9::I0::I1::I2::I3::I4::I5::I6::I7::I8::I9::J0::J1::J2::J3::J4::J5::J6::J7::J8::J9::L0::L1::L2::L3::L4::L5::L6::L7::L8::L9::M0::M1::M2::M3::M4::M5::M6::M7::M8::M9::N0::N1::N2::N3::N4::N5::N6::N7::N8::N9::O0::O1::O2::O3::O4::O5::O6::O7::O8::O9::P0::[]) w := Eq.mp (by kernel_rfl) h

theorem slices_pdqsortOrdered_uint64_A1_r {K : KV} {B1 : KE} {w : World}
    (h : cond E2
      (call Try.prog 28 #[data0, a1, b2] (fun E6 w =>
      bin Try.prog BinOp.sub 3 false true limit3 (Value.int IntKind.i64 1) (fun E8 w =>
      (slices_pdqsortOrdered_uint64_P1 K B1) (data0::a1::b2::E8::data4::a5::b6::limit7::wasBalanced8::wasPartitioned9::length10::pivot11::hint12::mid13::mid14::alreadyPartitioned15::leftLen16::rightLen17::balanceThreshold18::C6::C7::C8::C9::D0::D1::D2::D3::D4::D5::D6::D7::D8::D9::E0::E1::E2::data0::a1::b2::E6::limit3::E8::E9::F0::F1::F2::F3::F4::F5::F6::F7::F8::F9::G0::G1::G2::G3::G4::G5::G6::G7::G8::G9::H0::H1::H2::H3::H4::H5::H6::H7::H8::H9::I0::I1::I2::I3::I4::I5::I6::I7::I8::I9::J0::J1::J2::J3::J4::J5::J6::J7::J8::J9::L0::L1::L2::L3::L4::L5::L6::L7::L8::L9::M0::M1::M2::M3::M4::M5::M6::M7::M8::M9::N0::N1::N2::N3::N4::N5::N6::N7::N8::N9::O0::O1::O2::O3::O4::O5::O6::O7::O8::O9::P0::[]) w) w) w)
      ((slices_pdqsortOrdered_uint64_P1 K B1) (data0::a1::b2::limit3::data4::a5::b6::limit7::wasBalanced8::wasPartitioned9::length10::pivot11::hint12::mid13::mid14::alreadyPartitioned15::leftLen16::rightLen17::balanceThreshold18::C6::C7::C8::C9::D0::D1::D2::D3::D4::D5::D6::D7::D8::D9::E0::E1::E2::E3::E4::E5::E6::E7::E8::E9::F0::F1::F2::F3::F4::F5::F6::F7::F8::F9::G0::G1::G2::G3::G4::G5::G6::G7::G8::G9::H0::H1::H2::H3::H4::H5::H6::H7::H8::H9::I0::I1::I2::I3::I4::I5::I6::I7::I8::I9::J0::J1::J2::J3::J4::J5::J6::J7::J8::J9::L0::L1::L2::L3::L4::L5::L6::L7::L8::L9::M0::M1::M2::M3::M4::M5::M6::M7::M8::M9::N0::N1::N2::N3::N4::N5::N6::N7::N8::N9::O0::O1::O2::O3::O4::O5::O6::O7::O8::O9::P0::[]) w)) :
    slices_pdqsortOrdered_uint64_A1 K B1 (data0::a1::b2::limit3::data4::a5::b6::limit7::wasBalanced8::wasPartitioned9::length10::pivot11::hint12::mid13::mid14::alreadyPartitioned15::leftLen16::rightLen17::balanceThreshold18::C6::C7::C8::C9::D0::D1::D2::D3::D4::D5::D6::D7::D8::D9::E0::E1::E2::E3::E4::E5::E6::E7::E8::E9::F0::F1::F2::F3::F4::F5::F6::F7::F8::F9::G0::G1::G2::G3::G4::G5::G6::G7::G8::G9::H0::H1::H2::H3::H4::H5::H6::H7::H8::H9::I0::I1::I2::I3::I4::I5::I6::I7::I8::I9::J0::J1::J2::J3::J4::J5::J6::J7::J8::J9::L0::L1::L2::L3::L4::L5::L6::L7::L8::L9::M0::M1::M2::M3::M4::M5::M6::M7::M8::M9::N0::N1::N2::N3::N4::N5::N6::N7::N8::N9::O0::O1::O2::O3::O4::O5::O6::O7::O8::O9::P0::[]) w := by
  delta slices_pdqsortOrdered_uint64_A1
  exact Eq.mp (congrArg (fun c => cCode Try.prog c (slices_pdqsortOrdered_uint64_P1 K B1) (fun i => @Bool.rec (fun _ => KE) ((fun i => @Bool.rec (fun _ => KE) ((fun _ _ _ => False) i) (retK Try.prog Try.f24.results.toList K) (Nat.beq i 0)) i) B1 (Nat.beq i 1)) (retK Try.prog Try.f24.results.toList K) (data0::a1::b2::limit3::data4::a5::b6::limit7::wasBalanced8::wasPartitioned9::length10::pivot11::hint12::mid13::mid14::alreadyPartitioned15::leftLen16::rightLen17::balanceThreshold18::C6::C7::C8::C9::D0::D1::D2::D3::D4::D5::D6::D7::D8::D9::E0::E1::E2::E3::E4::E5::E6::E7::E8::E9::F0::F1::F2::F3::F4::F5::F6::F7::F8::F9::G0::G1::G2::G3::G4::G5::G6::G7::G8::G9::H0::H1::H2::H3::H4::H5::H6::H7::H8::H9::I0::I1::I2::I3::I4::I5::I6::I7::I8::I9::J0::J1::J2::J3::J4::J5::J6::J7::J8::J9::L0::L1::L2::L3::L4::L5::L6::L7::L8::L9::M0::M1::M2::M3::M4::M5::M6::M7::M8::M9::N0::N1::N2::N3::N4::N5::N6::N7::N8::N9::O0::O1::O2::O3::O4::O5::O6::O7::O8::O9::P0::[]) w) (by kernel_rfl : (cd Try.f24 [1, 1, 0, 0, 0, 1, 1, 1, 0, 1]) = (cd Try.f24 [1, 1, 0, 0, 0, 1, 1, 1, 0, 1]))) (slices_pdqsortOrdered_uint64_A1_k B1 (slices_pdqsortOrdered_uint64_P1 K B1) h)

theorem slices_pdqsortOrdered_uint64_P1_k {K : KV} (B1 : KE) (xc0 : Code) {w : World}
    (h : call Try.prog 29 #[data0, a1, b2] (fun F3 w =>
    ext Try.prog F3 0 (fun F4 w =>
    ext Try.prog F3 1 (fun F5 w =>
    bin Try.prog BinOp.eql 87 false true F5 (Value.int IntKind.i64 2) (fun F7 w =>
    (cCode Try.prog xc0 (cCode Try.prog (cd Try.f24 [1, 1, 0, 0, 0, 1, 1, 1, 1, 1, 1]) B1 (fun i => @Bool.rec (fun _ => KE) ((fun i => @Bool.rec (fun _ => KE) ((fun _ _ _ => False) i) (retK Try.prog Try.f24.results.toList K) (Nat.beq i 0)) i) B1 (Nat.beq i 1)) (retK Try.prog Try.f24.results.toList K)) (fun i => @Bool.rec (fun _ => KE) ((fun i => @Bool.rec (fun _ => KE) ((fun _ _ _ => False) i) (retK Try.prog Try.f24.results.toList K) (Nat.beq i 0)) i) B1 (Nat.beq i 1)) (retK Try.prog Try.f24.results.toList K)) (data0::a1::b2::limit3::data4::a5::b6::limit7::wasBalanced8::wasPartitioned9::length10::F4::F5::mid13::mid14::alreadyPartitioned15::leftLen16::rightLen17::balanceThreshold18::C6::C7::C8::C9::D0::D1::D2::D3::D4::D5::D6::D7::D8::D9::E0::E1::E2::E3::E4::E5::E6::E7::E8::F3::data0::a1::b2::F3::F4::F5::F5::F7::F8::F9::G0::G1::G2::G3::G4::G5::G6::G7::G8::G9::H0::H1::H2::H3::H4::H5::H6::H7::H8::H9::I0::I1::I2::I3::I4::I5::I6::I7::I8::I9::J0::J1::J2::J3::J4::J5::J6::J7::J8::J9::L0::L1::L2::L3::L4::L5::L6::L7::L8::L9::M0::M1::M2::M3::M4::M5::M6::M7::M8::M9::N0::N1::N2::N3::N4::N5::N6::N7::N8::N9::O0::O1::O2::O3::O4::O5::O6::O7::O8::O9::P0::[]) w) w) w) w) w) :
    cCode Try.prog (rep [1, 0, 1] xc0 (cd Try.f24 [1, 1, 0, 0, 0, 1, 1, 1, 1])) B1 (fun i => @Bool.rec (fun _ => KE) ((fun i => @Bool.rec (fun _ => KE) ((fun _ _ _ => False) i) (retK Try.prog Try.f24.results.toList K) (Nat.beq i 0)) i) B1 (Nat.beq i 1)) (retK Try.prog Try.f24.results.toList K) (data0::a1::b2::limit3::data4::a5::b6::limit7::wasBalanced8::wasPartitioned9::length10::pivot11::hint12::mid13::mid14::alreadyPartitioned15::leftLen16::rightLen17::balanceThreshold18::C6::C7::C8::C9::D0::D1::D2::D3::D4::D5::D6::D7::D8::D9::E0::E1::E2::E3::E4::E5::E6::E7::E8::E9::F0::F1::F2::F3::F4::F5::F6::F7::F8::F9::G0::G1::G2::G3::G4::G5::G6::G7::G8::G9::H0::H1::H2::H3::H4::H5::H6::H7::H8::H9::I0::I1::I2::I3::I4::I5::I6::I7::I8::I9::J0::J1::J2::J3::J4::J5::J6::J7::J8::J9::L0::L1::L2::L3::L4::L5::L6::L7::L8::L9::M0::M1::M2::M3::M4::M5::M6::M7::M8::M9::N0::N1::N2::N3::N4::N5::N6::N7::N8::N9::O0::O1::O2::O3::O4::O5::O6::O7::O8::O9::P0::[]) w := Eq.mp (by kernel_rfl) h

theorem slices_pdqsortOrdered_uint64_P1_r {K : KV} {B1 : KE} {w : World}
    (h : call Try.prog 29 #[data0, a1, b2] (fun F3 w =>
    ext Try.prog F3 0 (fun F4 w =>
    ext Try.prog F3 1 (fun F5 w =>
    bin Try.prog BinOp.eql 87 false true F5 (Value.int IntKind.i64 2) (fun F7 w =>
    (slices_pdqsortOrdered_uint64_A2 K B1) (data0::a1::b2::limit3::data4::a5::b6::limit7::wasBalanced8::wasPartitioned9::length10::F4::F5::mid13::mid14::alreadyPartitioned15::leftLen16::rightLen17::balanceThreshold18::C6::C7::C8::C9::D0::D1::D2::D3::D4::D5::D6::D7::D8::D9::E0::E1::E2::E3::E4::E5::E6::E7::E8::F3::data0::a1::b2::F3::F4::F5::F5::F7::F8::F9::G0::G1::G2::G3::G4::G5::G6::G7::G8::G9::H0::H1::H2::H3::H4::H5::H6::H7::H8::H9::I0::I1::I2::I3::I4::I5::I6::I7::I8::I9::J0::J1::J2::J3::J4::J5::J6::J7::J8::J9::L0::L1::L2::L3::L4::L5::L6::L7::L8::L9::M0::M1::M2::M3::M4::M5::M6::M7::M8::M9::N0::N1::N2::N3::N4::N5::N6::N7::N8::N9::O0::O1::O2::O3::O4::O5::O6::O7::O8::O9::P0::[]) w) w) w) w) w) :
    slices_pdqsortOrdered_uint64_P1 K B1 (data0::a1::b2::limit3::data4::a5::b6::limit7::wasBalanced8::wasPartitioned9::length10::pivot11::hint12::mid13::mid14::alreadyPartitioned15::leftLen16::rightLen17::balanceThreshold18::C6::C7::C8::C9::D0::D1::D2::D3::D4::D5::D6::D7::D8::D9::E0::E1::E2::E3::E4::E5::E6::E7::E8::E9::F0::F1::F2::F3::F4::F5::F6::F7::F8::F9::G0::G1::G2::G3::G4::G5::G6::G7::G8::G9::H0::H1::H2::H3::H4::H5::H6::H7::H8::H9::I0::I1::I2::I3::I4::I5::I6::I7::I8::I9::J0::J1::J2::J3::J4::J5::J6::J7::J8::J9::L0::L1::L2::L3::L4::L5::L6::L7::L8::L9::M0::M1::M2::M3::M4::M5::M6::M7::M8::M9::N0::N1::N2::N3::N4::N5::N6::N7::N8::N9::O0::O1::O2::O3::O4::O5::O6::O7::O8::O9::P0::[]) w := by
  delta slices_pdqsortOrdered_uint64_P1
  exact Eq.mp (congrArg (fun c => cCode Try.prog c B1 (fun i => @Bool.rec (fun _ => KE) ((fun i => @Bool.rec (fun _ => KE) ((fun _ _ _ => False) i) (retK Try.prog Try.f24.results.toList K) (Nat.beq i 0)) i) B1 (Nat.beq i 1)) (retK Try.prog Try.f24.results.toList K) (data0::a1::b2::limit3::data4::a5::b6::limit7::wasBalanced8::wasPartitioned9::length10::pivot11::hint12::mid13::mid14::alreadyPartitioned15::leftLen16::rightLen17::balanceThreshold18::C6::C7::C8::C9::D0::D1::D2::D3::D4::D5::D6::D7::D8::D9::E0::E1::E2::E3::E4::E5::E6::E7::E8::E9::F0::F1::F2::F3::F4::F5::F6::F7::F8::F9::G0::G1::G2::G3::G4::G5::G6::G7::G8::G9::H0::H1::H2::H3::H4::H5::H6::H7::H8::H9::I0::I1::I2::I3::I4::I5::I6::I7::I8::I9::J0::J1::J2::J3::J4::J5::J6::J7::J8::J9::L0::L1::L2::L3::L4::L5::L6::L7::L8::L9::M0::M1::M2::M3::M4::M5::M6::M7::M8::M9::N0::N1::N2::N3::N4::N5::N6::N7::N8::N9::O0::O1::O2::O3::O4::O5::O6::O7::O8::O9::P0::[]) w) (by kernel_rfl : (rep [1, 0, 1] (cd Try.f24 [1, 1, 0, 0, 0, 1, 1, 1, 1, 1, 0, 1]) (cd Try.f24 [1, 1, 0, 0, 0, 1, 1, 1, 1])) = (cd Try.f24 [1, 1, 0, 0, 0, 1, 1, 1, 1]))) (slices_pdqsortOrdered_uint64_P1_k B1 (cd Try.f24 [1, 1, 0, 0, 0, 1, 1, 1, 1, 1, 0, 1]) h)

theorem slices_pdqsortOrdered_uint64_A2_k {K : KV} (B1 : KE) (qc0 : KE) {w : World}
    (h : cond F7
      (call Try.prog 30 #[data0, a1, b2] (fun G1 w =>
      bin Try.prog BinOp.sub 3 false true b2 (Value.int IntKind.i64 1) (fun G3 w =>
      bin Try.prog BinOp.sub 3 false false pivot11 a1 (fun G6 w =>
      bin Try.prog BinOp.sub 3 false false G3 G6 (fun G7 w =>
      qc0 (data0::a1::b2::limit3::data4::a5::b6::limit7::wasBalanced8::wasPartitioned9::length10::G7::(Value.int IntKind.i64 1)::mid13::mid14::alreadyPartitioned15::leftLen16::rightLen17::balanceThreshold18::C6::C7::C8::C9::D0::D1::D2::D3::D4::D5::D6::D7::D8::D9::E0::E1::E2::E3::E4::E5::E6::E7::E8::E9::F0::F1::F2::F3::F4::F5::F6::F7::data0::a1::b2::G1::b2::G3::pivot11::a1::G6::G7::G8::G9::H0::H1::H2::H3::H4::H5::H6::H7::H8::H9::I0::I1::I2::I3::I4::I5::I6::I7::I8::I9::J0::J1::J2::J3::J4::J5::J6::J7::J8::J9::L0::L1::L2::L3::L4::L5::L6::L7::L8::L9::M0::M1::M2::M3::M4::M5::M6::M7::M8::M9::N0::N1::N2::N3::N4::N5::N6::N7::N8::N9::O0::O1::O2::O3::O4::O5::O6::O7::O8::O9::P0::[]) w) w) w) w) w)
      (qc0 (data0::a1::b2::limit3::data4::a5::b6::limit7::wasBalanced8::wasPartitioned9::length10::pivot11::hint12::mid13::mid14::alreadyPartitioned15::leftLen16::rightLen17::balanceThreshold18::C6::C7::C8::C9::D0::D1::D2::D3::D4::D5::D6::D7::D8::D9::E0::E1::E2::E3::E4::E5::E6::E7::E8::E9::F0::F1::F2::F3::F4::F5::F6::F7::F8::F9::G0::G1::G2::G3::G4::G5::G6::G7::G8::G9::H0::H1::H2::H3::H4::H5::H6::H7::H8::H9::I0::I1::I2::I3::I4::I5::I6::I7::I8::I9::J0::J1::J2::J3::J4::J5::J6::J7::J8::J9::L0::L1::L2::L3::L4::L5::L6::L7::L8::L9::M0::M1::M2::M3::M4::M5::M6::M7::M8::M9::N0::N1::N2::N3::N4::N5::N6::N7::N8::N9::O0::O1::O2::O3::O4::O5::O6::O7::O8::O9::P0::[]) w)) :
    cCode Try.prog (cd Try.f24 [1, 1, 0, 0, 0, 1, 1, 1, 1, 1, 0, 1]) qc0 (fun i => @Bool.rec (fun _ => KE) ((fun i => @Bool.rec (fun _ => KE) ((fun _ _ _ => False) i) (retK Try.prog Try.f24.results.toList K) (Nat.beq i 0)) i) B1 (Nat.beq i 1)) (retK Try.prog Try.f24.results.toList K) (data0::a1::b2::limit3::data4::a5::b6::limit7::wasBalanced8::wasPartitioned9::length10::pivot11::hint12::mid13::mid14::alreadyPartitioned15::leftLen16::rightLen17::balanceThreshold18::C6::C7::C8::C9::D0::D1::D2::D3::D4::D5::D6::D7::D8::D9::E0::E1::E2::E3::E4::E5::E6::E7::E8::E9::F0::F1::F2::F3::F4::F5::F6::F7::F8::F9::G0::G1::G2::G3::G4::G5::G6::G7::G8::G9::H0::H1::H2::H3::H4::H5::H6::H7::H8::H9::I0::I1::I2::I3::I4::I5::I6::I7::I8::I9::J0::J1::J2::J3::J4::J5::J6::J7::J8::J9::L0::L1::L2::L3::L4::L5::L6::L7::L8::L9::M0::M1::M2::M3::M4::M5::M6::M7::M8::M9::N0::N1::N2::N3::N4::N5::N6::N7::N8::N9::O0::O1::O2::O3::O4::O5::O6::O7::O8::O9::P0::[]) w := Eq.mp (by kernel_rfl) h

theorem slices_pdqsortOrdered_uint64_A2_r {K : KV} {B1 : KE} {w : World}
    (h : cond F7
      (call Try.prog 30 #[data0, a1, b2] (fun G1 w =>
      bin Try.prog BinOp.sub 3 false true b2 (Value.int IntKind.i64 1) (fun G3 w =>
      bin Try.prog BinOp.sub 3 false false pivot11 a1 (fun G6 w =>
      bin Try.prog BinOp.sub 3 false false G3 G6 (fun G7 w =>
      (slices_pdqsortOrdered_uint64_P2 K B1) (data0::a1::b2::limit3::data4::a5::b6::limit7::wasBalanced8::wasPartitioned9::length10::G7::(Value.int IntKind.i64 1)::mid13::mid14::alreadyPartitioned15::leftLen16::rightLen17::balanceThreshold18::C6::C7::C8::C9::D0::D1::D2::D3::D4::D5::D6::D7::D8::D9::E0::E1::E2::E3::E4::E5::E6::E7::E8::E9::F0::F1::F2::F3::F4::F5::F6::F7::data0::a1::b2::G1::b2::G3::pivot11::a1::G6::G7::G8::G9::H0::H1::H2::H3::H4::H5::H6::H7::H8::H9::I0::I1::I2::I3::I4::I5::I6::I7::I8::I9::J0::J1::J2::J3::J4::J5::J6::J7::J8::J9::L0::L1::L2::L3::L4::L5::L6::L7::L8::L9::M0::M1::M2::M3::M4::M5::M6::M7::M8::M9::N0::N1::N2::N3::N4::N5::N6::N7::N8::N9::O0::O1::O2::O3::O4::O5::O6::O7::O8::O9::P0::[]) w) w) w) w) w)
      ((slices_pdqsortOrdered_uint64_P2 K B1) (data0::a1::b2::limit3::data4::a5::b6::limit7::wasBalanced8::wasPartitioned9::length10::pivot11::hint12::mid13::mid14::alreadyPartitioned15::leftLen16::rightLen17::balanceThreshold18::C6::C7::C8::C9::D0::D1::D2::D3::D4::D5::D6::D7::D8::D9::E0::E1::E2::E3::E4::E5::E6::E7::E8::E9::F0::F1::F2::F3::F4::F5::F6::F7::F8::F9::G0::G1::G2::G3::G4::G5::G6::G7::G8::G9::H0::H1::H2::H3::H4::H5::H6::H7::H8::H9::I0::I1::I2::I3::I4::I5::I6::I7::I8::I9::J0::J1::J2::J3::J4::J5::J6::J7::J8::J9::L0::L1::L2::L3::L4::L5::L6::L7::L8::L9::M0::M1::M2::M3::M4::M5::M6::M7::M8::M9::N0::N1::N2::N3::N4::N5::N6::N7::N8::N9::O0::O1::O2::O3::O4::O5::O6::O7::O8::O9::P0::[]) w)) :
    slices_pdqsortOrdered_uint64_A2 K B1 (data0::a1::b2::limit3::data4::a5::b6::limit7::wasBalanced8::wasPartitioned9::length10::pivot11::hint12::mid13::mid14::alreadyPartitioned15::leftLen16::rightLen17::balanceThreshold18::C6::C7::C8::C9::D0::D1::D2::D3::D4::D5::D6::D7::D8::D9::E0::E1::E2::E3::E4::E5::E6::E7::E8::E9::F0::F1::F2::F3::F4::F5::F6::F7::F8::F9::G0::G1::G2::G3::G4::G5::G6::G7::G8::G9::H0::H1::H2::H3::H4::H5::H6::H7::H8::H9::I0::I1::I2::I3::I4::I5::I6::I7::I8::I9::J0::J1::J2::J3::J4::J5::J6::J7::J8::J9::L0::L1::L2::L3::L4::L5::L6::L7::L8::L9::M0::M1::M2::M3::M4::M5::M6::M7::M8::M9::N0::N1::N2::N3::N4::N5::N6::N7::N8::N9::O0::O1::O2::O3::O4::O5::O6::O7::O8::O9::P0::[]) w := by
  delta slices_pdqsortOrdered_uint64_A2
  exact Eq.mp (congrArg (fun c => cCode Try.prog c (slices_pdqsortOrdered_uint64_P2 K B1) (fun i => @Bool.rec (fun _ => KE) ((fun i => @Bool.rec (fun _ => KE) ((fun _ _ _ => False) i) (retK Try.prog Try.f24.results.toList K) (Nat.beq i 0)) i) B1 (Nat.beq i 1)) (retK Try.prog Try.f24.results.toList K) (data0::a1::b2::limit3::data4::a5::b6::limit7::wasBalanced8::wasPartitioned9::length10::pivot11::hint12::mid13::mid14::alreadyPartitioned15::leftLen16::rightLen17::balanceThreshold18::C6::C7::C8::C9::D0::D1::D2::D3::D4::D5::D6::D7::D8::D9::E0::E1::E2::E3::E4::E5::E6::E7::E8::E9::F0::F1::F2::F3::F4::F5::F6::F7::F8::F9::G0::G1::G2::G3::G4::G5::G6::G7::G8::G9::H0::H1::H2::H3::H4::H5::H6::H7::H8::H9::I0::I1::I2::I3::I4::I5::I6::I7::I8::I9::J0::J1::J2::J3::J4::J5::J6::J7::J8::J9::L0::L1::L2::L3::L4::L5::L6::L7::L8::L9::M0::M1::M2::M3::M4::M5::M6::M7::M8::M9::N0::N1::N2::N3::N4::N5::N6::N7::N8::N9::O0::O1::O2::O3::O4::O5::O6::O7::O8::O9::P0::[]) w) (by kernel_rfl : (cd Try.f24 [1, 1, 0, 0, 0, 1, 1, 1, 1, 1, 0, 1]) = (cd Try.f24 [1, 1, 0, 0, 0, 1, 1, 1, 1, 1, 0, 1]))) (slices_pdqsortOrdered_uint64_A2_k B1 (slices_pdqsortOrdered_uint64_P2 K B1) h)

theorem slices_pdqsortOrdered_uint64_P2_k {K : KV} (B1 : KE) (xc0 : Code) {w : World}
    (h : gsel wasBalanced8 true (fun k63 =>
    k63 [wasPartitioned9] w)
    (fun k => k [undef] w) (fun us63 w =>
    pick wasBalanced8 (gd us63 0) (Value.bool false) (fun H1 w =>
    gsel H1 true (fun k66 =>
    bin Try.prog BinOp.eql 87 false true hint12 (Value.int IntKind.i64 1) (fun H4 w =>
    k66 [hint12, H4] w) w)
    (fun k => k [undef, undef] w) (fun us66 w =>
    pick H1 (gd us66 1) (Value.bool false) (fun H5 w =>
    (cCode Try.prog xc0 (cCode Try.prog (cd Try.f24 [1, 1, 0, 0, 0, 1, 1, 1, 1, 1, 1, 1]) B1 (fun i => @Bool.rec (fun _ => KE) ((fun i => @Bool.rec (fun _ => KE) ((fun _ _ _ => False) i) (retK Try.prog Try.f24.results.toList K) (Nat.beq i 0)) i) B1 (Nat.beq i 1)) (retK Try.prog Try.f24.results.toList K)) (fun i => @Bool.rec (fun _ => KE) ((fun i => @Bool.rec (fun _ => KE) ((fun _ _ _ => False) i) (retK Try.prog Try.f24.results.toList K) (Nat.beq i 0)) i) B1 (Nat.beq i 1)) (retK Try.prog Try.f24.results.toList K)) (data0::a1::b2::limit3::data4::a5::b6::limit7::wasBalanced8::wasPartitioned9::length10::pivot11::hint12::mid13::mid14::alreadyPartitioned15::leftLen16::rightLen17::balanceThreshold18::C6::C7::C8::C9::D0::D1::D2::D3::D4::D5::D6::D7::D8::D9::E0::E1::E2::E3::E4::E5::E6::E7::E8::E9::F0::F1::F2::F3::F4::F5::F6::F7::F8::F9::G0::G1::G2::G3::G4::G5::G6::G7::wasBalanced8::wasBalanced8::(gd us63 0)::H1::H1::(gd us66 0)::(gd us66 1)::H5::H6::H7::H8::H9::I0::I1::I2::I3::I4::I5::I6::I7::I8::I9::J0::J1::J2::J3::J4::J5::J6::J7::J8::J9::L0::L1::L2::L3::L4::L5::L6::L7::L8::L9::M0::M1::M2::M3::M4::M5::M6::M7::M8::M9::N0::N1::N2::N3::N4::N5::N6::N7::N8::N9::O0::O1::O2::O3::O4::O5::O6::O7::O8::O9::P0::[]) w) w)) w)) :
    cCode Try.prog (rep [0, 1] xc0 (cd Try.f24 [1, 1, 0, 0, 0, 1, 1, 1, 1, 1, 1])) B1 (fun i => @Bool.rec (fun _ => KE) ((fun i => @Bool.rec (fun _ => KE) ((fun _ _ _ => False) i) (retK Try.prog Try.f24.results.toList K) (Nat.beq i 0)) i) B1 (Nat.beq i 1)) (retK Try.prog Try.f24.results.toList K) (data0::a1::b2::limit3::data4::a5::b6::limit7::wasBalanced8::wasPartitioned9::length10::pivot11::hint12::mid13::mid14::alreadyPartitioned15::leftLen16::rightLen17::balanceThreshold18::C6::C7::C8::C9::D0::D1::D2::D3::D4::D5::D6::D7::D8::D9::E0::E1::E2::E3::E4::E5::E6::E7::E8::E9::F0::F1::F2::F3::F4::F5::F6::F7::F8::F9::G0::G1::G2::G3::G4::G5::G6::G7::G8::G9::H0::H1::H2::H3::H4::H5::H6::H7::H8::H9::I0::I1::I2::I3::I4::I5::I6::I7::I8::I9::J0::J1::J2::J3::J4::J5::J6::J7::J8::J9::L0::L1::L2::L3::L4::L5::L6::L7::L8::L9::M0::M1::M2::M3::M4::M5::M6::M7::M8::M9::N0::N1::N2::N3::N4::N5::N6::N7::N8::N9::O0::O1::O2::O3::O4::O5::O6::O7::O8::O9::P0::[]) w := Eq.mp (by kernel_rfl) h

theorem slices_pdqsortOrdered_uint64_P2_r {K : KV} {B1 : KE} {w : World}
    (h : gsel wasBalanced8 true (fun k63 =>
    k63 [wasPartitioned9] w)
    (fun k => k [undef] w) (fun us63 w =>
    pick wasBalanced8 (gd us63 0) (Value.bool false) (fun H1 w =>
    gsel H1 true (fun k66 =>
    bin Try.prog BinOp.eql 87 false true hint12 (Value.int IntKind.i64 1) (fun H4 w =>
    k66 [hint12, H4] w) w)
    (fun k => k [undef, undef] w) (fun us66 w =>
    pick H1 (gd us66 1) (Value.bool false) (fun H5 w =>
    (slices_pdqsortOrdered_uint64_A3 K B1) (data0::a1::b2::limit3::data4::a5::b6::limit7::wasBalanced8::wasPartitioned9::length10::pivot11::hint12::mid13::mid14::alreadyPartitioned15::leftLen16::rightLen17::balanceThreshold18::C6::C7::C8::C9::D0::D1::D2::D3::D4::D5::D6::D7::D8::D9::E0::E1::E2::E3::E4::E5::E6::E7::E8::E9::F0::F1::F2::F3::F4::F5::F6::F7::F8::F9::G0::G1::G2::G3::G4::G5::G6::G7::wasBalanced8::wasBalanced8::(gd us63 0)::H1::H1::(gd us66 0)::(gd us66 1)::H5::H6::H7::H8::H9::I0::I1::I2::I3::I4::I5::I6::I7::I8::I9::J0::J1::J2::J3::J4::J5::J6::J7::J8::J9::L0::L1::L2::L3::L4::L5::L6::L7::L8::L9::M0::M1::M2::M3::M4::M5::M6::M7::M8::M9::N0::N1::N2::N3::N4::N5::N6::N7::N8::N9::O0::O1::O2::O3::O4::O5::O6::O7::O8::O9::P0::[]) w) w)) w)) :
    slices_pdqsortOrdered_uint64_P2 K B1 (data0::a1::b2::limit3::data4::a5::b6::limit7::wasBalanced8::wasPartitioned9::length10::pivot11::hint12::mid13::mid14::alreadyPartitioned15::leftLen16::rightLen17::balanceThreshold18::C6::C7::C8::C9::D0::D1::D2::D3::D4::D5::D6::D7::D8::D9::E0::E1::E2::E3::E4::E5::E6::E7::E8::E9::F0::F1::F2::F3::F4::F5::F6::F7::F8::F9::G0::G1::G2::G3::G4::G5::G6::G7::G8::G9::H0::H1::H2::H3::H4::H5::H6::H7::H8::H9::I0::I1::I2::I3::I4::I5::I6::I7::I8::I9::J0::J1::J2::J3::J4::J5::J6::J7::J8::J9::L0::L1::L2::L3::L4::L5::L6::L7::L8::L9::M0::M1::M2::M3::M4::M5::M6::M7::M8::M9::N0::N1::N2::N3::N4::N5::N6::N7::N8::N9::O0::O1::O2::O3::O4::O5::O6::O7::O8::O9::P0::[]) w := by
  delta slices_pdqsortOrdered_uint64_P2
  exact Eq.mp (congrArg (fun c => cCode Try.prog c B1 (fun i => @Bool.rec (fun _ => KE) ((fun i => @Bool.rec (fun _ => KE) ((fun _ _ _ => False) i) (retK Try.prog Try.f24.results.toList K) (Nat.beq i 0)) i) B1 (Nat.beq i 1)) (retK Try.prog Try.f24.results.toList K) (data0::a1::b2::limit3::data4::a5::b6::limit7::wasBalanced8::wasPartitioned9::length10::pivot11::hint12::mid13::mid14::alreadyPartitioned15::leftLen16::rightLen17::balanceThreshold18::C6::C7::C8::C9::D0::D1::D2::D3::D4::D5::D6::D7::D8::D9::E0::E1::E2::E3::E4::E5::E6::E7::E8::E9::F0::F1::F2::F3::F4::F5::F6::F7::F8::F9::G0::G1::G2::G3::G4::G5::G6::G7::G8::G9::H0::H1::H2::H3::H4::H5::H6::H7::H8::H9::I0::I1::I2::I3::I4::I5::I6::I7::I8::I9::J0::J1::J2::J3::J4::J5::J6::J7::J8::J9::L0::L1::L2::L3::L4::L5::L6::L7::L8::L9::M0::M1::M2::M3::M4::M5::M6::M7::M8::M9::N0::N1::N2::N3::N4::N5::N6::N7::N8::N9::O0::O1::O2::O3::O4::O5::O6::O7::O8::O9::P0::[]) w) (by kernel_rfl : (rep [0, 1] (cd Try.f24 [1, 1, 0, 0, 0, 1, 1, 1, 1, 1, 1, 0, 1]) (cd Try.f24 [1, 1, 0, 0, 0, 1, 1, 1, 1, 1, 1])) = (cd Try.f24 [1, 1, 0, 0, 0, 1, 1, 1, 1, 1, 1]))) (slices_pdqsortOrdered_uint64_P2_k B1 (cd Try.f24 [1, 1, 0, 0, 0, 1, 1, 1, 1, 1, 1, 0, 1]) h)

theorem slices_pdqsortOrdered_uint64_A3_k {K : KV} (B1 : KE) (qc0 : KE) {w : World}
    (h : cond H5
      (call Try.prog 31 #[data0, a1, b2] (fun H9 w =>
      cond H9
        (K (Value.tuple #[]) w)
        (qc0 (data0::a1::b2::limit3::data4::a5::b6::limit7::wasBalanced8::wasPartitioned9::length10::pivot11::hint12::mid13::mid14::alreadyPartitioned15::leftLen16::rightLen17::balanceThreshold18::C6::C7::C8::C9::D0::D1::D2::D3::D4::D5::D6::D7::D8::D9::E0::E1::E2::E3::E4::E5::E6::E7::E8::E9::F0::F1::F2::F3::F4::F5::F6::F7::F8::F9::G0::G1::G2::G3::G4::G5::G6::G7::G8::G9::H0::H1::H2::H3::H4::H5::data0::a1::b2::H9::I0::I1::I2::I3::I4::I5::I6::I7::I8::I9::J0::J1::J2::J3::J4::J5::J6::J7::J8::J9::L0::L1::L2::L3::L4::L5::L6::L7::L8::L9::M0::M1::M2::M3::M4::M5::M6::M7::M8::M9::N0::N1::N2::N3::N4::N5::N6::N7::N8::N9::O0::O1::O2::O3::O4::O5::O6::O7::O8::O9::P0::[]) w)) w)
      (qc0 (data0::a1::b2::limit3::data4::a5::b6::limit7::wasBalanced8::wasPartitioned9::length10::pivot11::hint12::mid13::mid14::alreadyPartitioned15::leftLen16::rightLen17::balanceThreshold18::C6::C7::C8::C9::D0::D1::D2::D3::D4::D5::D6::D7::D8::D9::E0::E1::E2::E3::E4::E5::E6::E7::E8::E9::F0::F1::F2::F3::F4::F5::F6::F7::F8::F9::G0::G1::G2::G3::G4::G5::G6::G7::G8::G9::H0::H1::H2::H3::H4::H5::H6::H7::H8::H9::I0::I1::I2::I3::I4::I5::I6::I7::I8::I9::J0::J1::J2::J3::J4::J5::J6::J7::J8::J9::L0::L1::L2::L3::L4::L5::L6::L7::L8::L9::M0::M1::M2::M3::M4::M5::M6::M7::M8::M9::N0::N1::N2::N3::N4::N5::N6::N7::N8::N9::O0::O1::O2::O3::O4::O5::O6::O7::O8::O9::P0::[]) w)) :
    cCode Try.prog (cd Try.f24 [1, 1, 0, 0, 0, 1, 1, 1, 1, 1, 1, 0, 1]) qc0 (fun i => @Bool.rec (fun _ => KE) ((fun i => @Bool.rec (fun _ => KE) ((fun _ _ _ => False) i) (retK Try.prog Try.f24.results.toList K) (Nat.beq i 0)) i) B1 (Nat.beq i 1)) (retK Try.prog Try.f24.results.toList K) (data0::a1::b2::limit3::data4::a5::b6::limit7::wasBalanced8::wasPartitioned9::length10::pivot11::hint12::mid13::mid14::alreadyPartitioned15::leftLen16::rightLen17::balanceThreshold18::C6::C7::C8::C9::D0::D1::D2::D3::D4::D5::D6::D7::D8::D9::E0::E1::E2::E3::E4::E5::E6::E7::E8::E9::F0::F1::F2::F3::F4::F5::F6::F7::F8::F9::G0::G1::G2::G3::G4::G5::G6::G7::G8::G9::H0::H1::H2::H3::H4::H5::H6::H7::H8::H9::I0::I1::I2::I3::I4::I5::I6::I7::I8::I9::J0::J1::J2::J3::J4::J5::J6::J7::J8::J9::L0::L1::L2::L3::L4::L5::L6::L7::L8::L9::M0::M1::M2::M3::M4::M5::M6::M7::M8::M9::N0::N1::N2::N3::N4::N5::N6::N7::N8::N9::O0::O1::O2::O3::O4::O5::O6::O7::O8::O9::P0::[]) w := Eq.mp (by kernel_rfl) h

theorem slices_pdqsortOrdered_uint64_A3_r {K : KV} {B1 : KE} {w : World}
    (h : cond H5
      (call Try.prog 31 #[data0, a1, b2] (fun H9 w =>
      cond H9
        (K (Value.tuple #[]) w)
        ((slices_pdqsortOrdered_uint64_P3 K B1) (data0::a1::b2::limit3::data4::a5::b6::limit7::wasBalanced8::wasPartitioned9::length10::pivot11::hint12::mid13::mid14::alreadyPartitioned15::leftLen16::rightLen17::balanceThreshold18::C6::C7::C8::C9::D0::D1::D2::D3::D4::D5::D6::D7::D8::D9::E0::E1::E2::E3::E4::E5::E6::E7::E8::E9::F0::F1::F2::F3::F4::F5::F6::F7::F8::F9::G0::G1::G2::G3::G4::G5::G6::G7::G8::G9::H0::H1::H2::H3::H4::H5::data0::a1::b2::H9::I0::I1::I2::I3::I4::I5::I6::I7::I8::I9::J0::J1::J2::J3::J4::J5::J6::J7::J8::J9::L0::L1::L2::L3::L4::L5::L6::L7::L8::L9::M0::M1::M2::M3::M4::M5::M6::M7::M8::M9::N0::N1::N2::N3::N4::N5::N6::N7::N8::N9::O0::O1::O2::O3::O4::O5::O6::O7::O8::O9::P0::[]) w)) w)
      ((slices_pdqsortOrdered_uint64_P3 K B1) (data0::a1::b2::limit3::data4::a5::b6::limit7::wasBalanced8::wasPartitioned9::length10::pivot11::hint12::mid13::mid14::alreadyPartitioned15::leftLen16::rightLen17::balanceThreshold18::C6::C7::C8::C9::D0::D1::D2::D3::D4::D5::D6::D7::D8::D9::E0::E1::E2::E3::E4::E5::E6::E7::E8::E9::F0::F1::F2::F3::F4::F5::F6::F7::F8::F9::G0::G1::G2::G3::G4::G5::G6::G7::G8::G9::H0::H1::H2::H3::H4::H5::H6::H7::H8::H9::I0::I1::I2::I3::I4::I5::I6::I7::I8::I9::J0::J1::J2::J3::J4::J5::J6::J7::J8::J9::L0::L1::L2::L3::L4::L5::L6::L7::L8::L9::M0::M1::M2::M3::M4::M5::M6::M7::M8::M9::N0::N1::N2::N3::N4::N5::N6::N7::N8::N9::O0::O1::O2::O3::O4::O5::O6::O7::O8::O9::P0::[]) w)) :
    slices_pdqsortOrdered_uint64_A3 K B1 (data0::a1::b2::limit3::data4::a5::b6::limit7::wasBalanced8::wasPartitioned9::length10::pivot11::hint12::mid13::mid14::alreadyPartitioned15::leftLen16::rightLen17::balanceThreshold18::C6::C7::C8::C9::D0::D1::D2::D3::D4::D5::D6::D7::D8::D9::E0::E1::E2::E3::E4::E5::E6::E7::E8::E9::F0::F1::F2::F3::F4::F5::F6::F7::F8::F9::G0::G1::G2::G3::G4::G5::G6::G7::G8::G9::H0::H1::H2::H3::H4::H5::H6::H7::H8::H9::I0::I1::I2::I3::I4::I5::I6::I7::I8::I9::J0::J1::J2::J3::J4::J5::J6::J7::J8::J9::L0::L1::L2::L3::L4::L5::L6::L7::L8::L9::M0::M1::M2::M3::M4::M5::M6::M7::M8::M9::N0::N1::N2::N3::N4::N5::N6::N7::N8::N9::O0::O1::O2::O3::O4::O5::O6::O7::O8::O9::P0::[]) w := by
  delta slices_pdqsortOrdered_uint64_A3
  exact Eq.mp (congrArg (fun c => cCode Try.prog c (slices_pdqsortOrdered_uint64_P3 K B1) (fun i => @Bool.rec (fun _ => KE) ((fun i => @Bool.rec (fun _ => KE) ((fun _ _ _ => False) i) (retK Try.prog Try.f24.results.toList K) (Nat.beq i 0)) i) B1 (Nat.beq i 1)) (retK Try.prog Try.f24.results.toList K) (data0::a1::b2::limit3::data4::a5::b6::limit7::wasBalanced8::wasPartitioned9::length10::pivot11::hint12::mid13::mid14::alreadyPartitioned15::leftLen16::rightLen17::balanceThreshold18::C6::C7::C8::C9::D0::D1::D2::D3::D4::D5::D6::D7::D8::D9::E0::E1::E2::E3::E4::E5::E6::E7::E8::E9::F0::F1::F2::F3::F4::F5::F6::F7::F8::F9::G0::G1::G2::G3::G4::G5::G6::G7::G8::G9::H0::H1::H2::H3::H4::H5::H6::H7::H8::H9::I0::I1::I2::I3::I4::I5::I6::I7::I8::I9::J0::J1::J2::J3::J4::J5::J6::J7::J8::J9::L0::L1::L2::L3::L4::L5::L6::L7::L8::L9::M0::M1::M2::M3::M4::M5::M6::M7::M8::M9::N0::N1::N2::N3::N4::N5::N6::N7::N8::N9::O0::O1::O2::O3::O4::O5::O6::O7::O8::O9::P0::[]) w) (by kernel_rfl : (cd Try.f24 [1, 1, 0, 0, 0, 1, 1, 1, 1, 1, 1, 0, 1]) = (cd Try.f24 [1, 1, 0, 0, 0, 1, 1, 1, 1, 1, 1, 0, 1]))) (slices_pdqsortOrdered_uint64_A3_k B1 (slices_pdqsortOrdered_uint64_P3 K B1) h)

theorem slices_pdqsortOrdered_uint64_P3_k {K : KV} (B1 : KE) (xc0 : Code) {w : World}
    (h : (fun w =>
    sti (fun k w => bin Try.prog BinOp.gtr 3 false true a1 (Value.int IntKind.i64 0) k w) (fun I1 w =>
    gsel I1 true (fun k76 =>
    sti (fun k w => bin Try.prog BinOp.sub 3 false true a1 (Value.int IntKind.i64 1) k w) (fun I5 w =>
    sti (fun k w => idxA Try.prog 47 data0 I5 k w) (fun I6 w =>
    sti (fun k w => ld Try.prog 33 I6 k w) (fun I7 w =>
    sti (fun k w => idxA Try.prog 47 data0 pivot11 k w) (fun J0 w =>
    sti (fun k w => ld Try.prog 33 J0 k w) (fun J1 w =>
    sti (fun k w => call Try.prog 32 #[I7, J1] k w) (fun J2 w =>
    sti (fun k w => un Try.prog UnOp.not J2 k w) (fun J3 w =>
    k76 [data0, a1, I5, I6, I7, data0, pivot11, J0, J1, J2, J3] w) w) w) w) w) w) w) w)
    (fun k => k [undef, undef, undef, undef, undef, undef, undef, undef, undef, undef, undef] w) (fun us76 w =>
    sti (fun k w => pick I1 (gd us76 10) (Value.bool false) k w) (fun J4 w =>
    cond J4
      (call Try.prog 33 #[data0, a1, b2, pivot11] (fun J9 w =>
      B1 (data0::J9::b2::limit3::data4::a5::b6::limit7::wasBalanced8::wasPartitioned9::length10::pivot11::hint12::J9::mid14::alreadyPartitioned15::leftLen16::rightLen17::balanceThreshold18::C6::C7::C8::C9::D0::D1::D2::D3::D4::D5::D6::D7::D8::D9::E0::E1::E2::E3::E4::E5::E6::E7::E8::E9::F0::F1::F2::F3::F4::F5::F6::F7::F8::F9::G0::G1::G2::G3::G4::G5::G6::G7::G8::G9::H0::H1::H2::H3::H4::H5::H6::H7::H8::H9::a1::I1::I1::(gd us76 0)::(gd us76 1)::(gd us76 2)::(gd us76 3)::(gd us76 4)::(gd us76 5)::(gd us76 6)::(gd us76 7)::(gd us76 8)::(gd us76 9)::(gd us76 10)::J4::data0::a1::b2::pivot11::J9::J9::L1::L2::L3::L4::L5::L6::L7::L8::L9::M0::M1::M2::M3::M4::M5::M6::M7::M8::M9::N0::N1::N2::N3::N4::N5::N6::N7::N8::N9::O0::O1::O2::O3::O4::O5::O6::O7::O8::O9::P0::[]) w) w)
      (call Try.prog 34 #[data0, a1, b2, pivot11] (fun L6 w =>
    ext Try.prog L6 0 (fun L7 w =>
    ext Try.prog L6 1 (fun L8 w =>
    (cCode Try.prog xc0 B1 (fun i => @Bool.rec (fun _ => KE) ((fun i => @Bool.rec (fun _ => KE) ((fun _ _ _ => False) i) (retK Try.prog Try.f24.results.toList K) (Nat.beq i 0)) i) B1 (Nat.beq i 1)) (retK Try.prog Try.f24.results.toList K)) (data0::a1::b2::limit3::data4::a5::b6::limit7::wasBalanced8::wasPartitioned9::length10::pivot11::hint12::mid13::L7::L8::leftLen16::rightLen17::balanceThreshold18::C6::C7::C8::C9::D0::D1::D2::D3::D4::D5::D6::D7::D8::D9::E0::E1::E2::E3::E4::E5::E6::E7::E8::E9::F0::F1::F2::F3::F4::F5::F6::F7::F8::F9::G0::G1::G2::G3::G4::G5::G6::G7::G8::G9::H0::H1::H2::H3::H4::H5::H6::H7::H8::H9::a1::I1::I1::(gd us76 0)::(gd us76 1)::(gd us76 2)::(gd us76 3)::(gd us76 4)::(gd us76 5)::(gd us76 6)::(gd us76 7)::(gd us76 8)::(gd us76 9)::(gd us76 10)::J4::J5::J6::J7::J8::J9::L0::L6::data0::a1::b2::pivot11::L6::L7::L8::L9::M0::M1::M2::M3::M4::M5::M6::M7::M8::M9::N0::N1::N2::N3::N4::N5::N6::N7::N8::N9::O0::O1::O2::O3::O4::O5::O6::O7::O8::O9::P0::[]) w) w) w) w)) w)) w) w.drew) :
    cCode Try.prog (rep [1, 1] xc0 (cd Try.f24 [1, 1, 0, 0, 0, 1, 1, 1, 1, 1, 1, 1])) B1 (fun i => @Bool.rec (fun _ => KE) ((fun i => @Bool.rec (fun _ => KE) ((fun _ _ _ => False) i) (retK Try.prog Try.f24.results.toList K) (Nat.beq i 0)) i) B1 (Nat.beq i 1)) (retK Try.prog Try.f24.results.toList K) (data0::a1::b2::limit3::data4::a5::b6::limit7::wasBalanced8::wasPartitioned9::length10::pivot11::hint12::mid13::mid14::alreadyPartitioned15::leftLen16::rightLen17::balanceThreshold18::C6::C7::C8::C9::D0::D1::D2::D3::D4::D5::D6::D7::D8::D9::E0::E1::E2::E3::E4::E5::E6::E7::E8::E9::F0::F1::F2::F3::F4::F5::F6::F7::F8::F9::G0::G1::G2::G3::G4::G5::G6::G7::G8::G9::H0::H1::H2::H3::H4::H5::H6::H7::H8::H9::I0::I1::I2::I3::I4::I5::I6::I7::I8::I9::J0::J1::J2::J3::J4::J5::J6::J7::J8::J9::L0::L1::L2::L3::L4::L5::L6::L7::L8::L9::M0::M1::M2::M3::M4::M5::M6::M7::M8::M9::N0::N1::N2::N3::N4::N5::N6::N7::N8::N9::O0::O1::O2::O3::O4::O5::O6::O7::O8::O9::P0::[]) w := Eq.mp (by kernel_rfl) h

theorem slices_pdqsortOrdered_uint64_P3_r {K : KV} {B1 : KE} {w : World}
    (h : (fun w =>
    sti (fun k w => bin Try.prog BinOp.gtr 3 false true a1 (Value.int IntKind.i64 0) k w) (fun I1 w =>
    gsel I1 true (fun k76 =>
    sti (fun k w => bin Try.prog BinOp.sub 3 false true a1 (Value.int IntKind.i64 1) k w) (fun I5 w =>
    sti (fun k w => idxA Try.prog 47 data0 I5 k w) (fun I6 w =>
    sti (fun k w => ld Try.prog 33 I6 k w) (fun I7 w =>
    sti (fun k w => idxA Try.prog 47 data0 pivot11 k w) (fun J0 w =>
    sti (fun k w => ld Try.prog 33 J0 k w) (fun J1 w =>
    sti (fun k w => call Try.prog 32 #[I7, J1] k w) (fun J2 w =>
    sti (fun k w => un Try.prog UnOp.not J2 k w) (fun J3 w =>
    k76 [data0, a1, I5, I6, I7, data0, pivot11, J0, J1, J2, J3] w) w) w) w) w) w) w) w)
    (fun k => k [undef, undef, undef, undef, undef, undef, undef, undef, undef, undef, undef] w) (fun us76 w =>
    sti (fun k w => pick I1 (gd us76 10) (Value.bool false) k w) (fun J4 w =>
    cond J4
      (call Try.prog 33 #[data0, a1, b2, pivot11] (fun J9 w =>
      B1 (data0::J9::b2::limit3::data4::a5::b6::limit7::wasBalanced8::wasPartitioned9::length10::pivot11::hint12::J9::mid14::alreadyPartitioned15::leftLen16::rightLen17::balanceThreshold18::C6::C7::C8::C9::D0::D1::D2::D3::D4::D5::D6::D7::D8::D9::E0::E1::E2::E3::E4::E5::E6::E7::E8::E9::F0::F1::F2::F3::F4::F5::F6::F7::F8::F9::G0::G1::G2::G3::G4::G5::G6::G7::G8::G9::H0::H1::H2::H3::H4::H5::H6::H7::H8::H9::a1::I1::I1::(gd us76 0)::(gd us76 1)::(gd us76 2)::(gd us76 3)::(gd us76 4)::(gd us76 5)::(gd us76 6)::(gd us76 7)::(gd us76 8)::(gd us76 9)::(gd us76 10)::J4::data0::a1::b2::pivot11::J9::J9::L1::L2::L3::L4::L5::L6::L7::L8::L9::M0::M1::M2::M3::M4::M5::M6::M7::M8::M9::N0::N1::N2::N3::N4::N5::N6::N7::N8::N9::O0::O1::O2::O3::O4::O5::O6::O7::O8::O9::P0::[]) w) w)
      (call Try.prog 34 #[data0, a1, b2, pivot11] (fun L6 w =>
    ext Try.prog L6 0 (fun L7 w =>
    ext Try.prog L6 1 (fun L8 w =>
    (slices_pdqsortOrdered_uint64_A4 K B1) (data0::a1::b2::limit3::data4::a5::b6::limit7::wasBalanced8::wasPartitioned9::length10::pivot11::hint12::mid13::L7::L8::leftLen16::rightLen17::balanceThreshold18::C6::C7::C8::C9::D0::D1::D2::D3::D4::D5::D6::D7::D8::D9::E0::E1::E2::E3::E4::E5::E6::E7::E8::E9::F0::F1::F2::F3::F4::F5::F6::F7::F8::F9::G0::G1::G2::G3::G4::G5::G6::G7::G8::G9::H0::H1::H2::H3::H4::H5::H6::H7::H8::H9::a1::I1::I1::(gd us76 0)::(gd us76 1)::(gd us76 2)::(gd us76 3)::(gd us76 4)::(gd us76 5)::(gd us76 6)::(gd us76 7)::(gd us76 8)::(gd us76 9)::(gd us76 10)::J4::J5::J6::J7::J8::J9::L0::L6::data0::a1::b2::pivot11::L6::L7::L8::L9::M0::M1::M2::M3::M4::M5::M6::M7::M8::M9::N0::N1::N2::N3::N4::N5::N6::N7::N8::N9::O0::O1::O2::O3::O4::O5::O6::O7::O8::O9::P0::[]) w) w) w) w)) w)) w) w.drew) :
    slices_pdqsortOrdered_uint64_P3 K B1 (data0::a1::b2::limit3::data4::a5::b6::limit7::wasBalanced8::wasPartitioned9::length10::pivot11::hint12::mid13::mid14::alreadyPartitioned15::leftLen16::rightLen17::balanceThreshold18::C6::C7::C8::C9::D0::D1::D2::D3::D4::D5::D6::D7::D8::D9::E0::E1::E2::E3::E4::E5::E6::E7::E8::E9::F0::F1::F2::F3::F4::F5::F6::F7::F8::F9::G0::G1::G2::G3::G4::G5::G6::G7::G8::G9::H0::H1::H2::H3::H4::H5::H6::H7::H8::H9::I0::I1::I2::I3::I4::I5::I6::I7::I8::I9::J0::J1::J2::J3::J4::J5::J6::J7::J8::J9::L0::L1::L2::L3::L4::L5::L6::L7::L8::L9::M0::M1::M2::M3::M4::M5::M6::M7::M8::M9::N0::N1::N2::N3::N4::N5::N6::N7::N8::N9::O0::O1::O2::O3::O4::O5::O6::O7::O8::O9::P0::[]) w := by
  delta slices_pdqsortOrdered_uint64_P3
  exact Eq.mp (congrArg (fun c => cCode Try.prog c B1 (fun i => @Bool.rec (fun _ => KE) ((fun i => @Bool.rec (fun _ => KE) ((fun _ _ _ => False) i) (retK Try.prog Try.f24.results.toList K) (Nat.beq i 0)) i) B1 (Nat.beq i 1)) (retK Try.prog Try.f24.results.toList K) (data0::a1::b2::limit3::data4::a5::b6::limit7::wasBalanced8::wasPartitioned9::length10::pivot11::hint12::mid13::mid14::alreadyPartitioned15::leftLen16::rightLen17::balanceThreshold18::C6::C7::C8::C9::D0::D1::D2::D3::D4::D5::D6::D7::D8::D9::E0::E1::E2::E3::E4::E5::E6::E7::E8::E9::F0::F1::F2::F3::F4::F5::F6::F7::F8::F9::G0::G1::G2::G3::G4::G5::G6::G7::G8::G9::H0::H1::H2::H3::H4::H5::H6::H7::H8::H9::I0::I1::I2::I3::I4::I5::I6::I7::I8::I9::J0::J1::J2::J3::J4::J5::J6::J7::J8::J9::L0::L1::L2::L3::L4::L5::L6::L7::L8::L9::M0::M1::M2::M3::M4::M5::M6::M7::M8::M9::N0::N1::N2::N3::N4::N5::N6::N7::N8::N9::O0::O1::O2::O3::O4::O5::O6::O7::O8::O9::P0::[]) w) (by kernel_rfl : (rep [1, 1] (cd Try.f24 [1, 1, 0, 0, 0, 1, 1, 1, 1, 1, 1, 1, 1, 1]) (cd Try.f24 [1, 1, 0, 0, 0, 1, 1, 1, 1, 1, 1, 1])) = (cd Try.f24 [1, 1, 0, 0, 0, 1, 1, 1, 1, 1, 1, 1]))) (slices_pdqsortOrdered_uint64_P3_k B1 (cd Try.f24 [1, 1, 0, 0, 0, 1, 1, 1, 1, 1, 1, 1, 1, 1]) h)

theorem slices_pdqsortOrdered_uint64_A4_k {K : KV} (B1 : KE) {w : World}
    (h : bin Try.prog BinOp.sub 3 false false mid14 a1 (fun M2 w =>
    bin Try.prog BinOp.sub 3 false false b2 mid14 (fun M5 w =>
    bin Try.prog BinOp.quo 3 false true length10 (Value.int IntKind.i64 8) (fun M7 w =>
    bin Try.prog BinOp.lss 3 false false M2 M5 (fun N0 w =>
    cond N0
      (bin Try.prog BinOp.geq 3 false false M2 M7 (fun N3 w =>
      call Try.prog 24 #[data0, a1, mid14, limit3] (fun N8 w =>
      bin Try.prog BinOp.add 3 false true mid14 (Value.int IntKind.i64 1) (fun O0 w =>
      B1 (data0::O0::b2::limit3::data4::a5::b6::limit7::N3::alreadyPartitioned15::length10::pivot11::hint12::mid13::mid14::alreadyPartitioned15::M2::M5::M7::C6::C7::C8::C9::D0::D1::D2::D3::D4::D5::D6::D7::D8::D9::E0::E1::E2::E3::E4::E5::E6::E7::E8::E9::F0::F1::F2::F3::F4::F5::F6::F7::F8::F9::G0::G1::G2::G3::G4::G5::G6::G7::G8::G9::H0::H1::H2::H3::H4::H5::H6::H7::H8::H9::I0::I1::I2::I3::I4::I5::I6::I7::I8::I9::J0::J1::J2::J3::J4::J5::J6::J7::J8::J9::L0::L1::L2::L3::L4::L5::L6::L7::L8::alreadyPartitioned15::mid14::a1::M2::b2::mid14::M5::length10::M7::M2::M5::N0::M2::M7::N3::data0::a1::mid14::limit3::N8::mid14::O0::O1::O2::O3::O4::O5::O6::O7::O8::O9::P0::[]) w) w) w) w)
      (bin Try.prog BinOp.geq 3 false false M5 M7 (fun O3 w =>
      bin Try.prog BinOp.add 3 false true mid14 (Value.int IntKind.i64 1) (fun O6 w =>
      call Try.prog 24 #[data0, O6, b2, limit3] (fun O9 w =>
      B1 (data0::a1::mid14::limit3::data4::a5::b6::limit7::O3::alreadyPartitioned15::length10::pivot11::hint12::mid13::mid14::alreadyPartitioned15::M2::M5::M7::C6::C7::C8::C9::D0::D1::D2::D3::D4::D5::D6::D7::D8::D9::E0::E1::E2::E3::E4::E5::E6::E7::E8::E9::F0::F1::F2::F3::F4::F5::F6::F7::F8::F9::G0::G1::G2::G3::G4::G5::G6::G7::G8::G9::H0::H1::H2::H3::H4::H5::H6::H7::H8::H9::I0::I1::I2::I3::I4::I5::I6::I7::I8::I9::J0::J1::J2::J3::J4::J5::J6::J7::J8::J9::L0::L1::L2::L3::L4::L5::L6::L7::L8::alreadyPartitioned15::mid14::a1::M2::b2::mid14::M5::length10::M7::M2::M5::N0::N1::N2::N3::N4::N5::N6::N7::N8::N9::O0::M5::M7::O3::data0::mid14::O6::b2::limit3::O9::mid14::[]) w) w) w) w)) w) w) w) w) :
    cCode Try.prog (cd Try.f24 [1, 1, 0, 0, 0, 1, 1, 1, 1, 1, 1, 1, 1, 1]) B1 (fun i => @Bool.rec (fun _ => KE) ((fun i => @Bool.rec (fun _ => KE) ((fun _ _ _ => False) i) (retK Try.prog Try.f24.results.toList K) (Nat.beq i 0)) i) B1 (Nat.beq i 1)) (retK Try.prog Try.f24.results.toList K) (data0::a1::b2::limit3::data4::a5::b6::limit7::wasBalanced8::wasPartitioned9::length10::pivot11::hint12::mid13::mid14::alreadyPartitioned15::leftLen16::rightLen17::balanceThreshold18::C6::C7::C8::C9::D0::D1::D2::D3::D4::D5::D6::D7::D8::D9::E0::E1::E2::E3::E4::E5::E6::E7::E8::E9::F0::F1::F2::F3::F4::F5::F6::F7::F8::F9::G0::G1::G2::G3::G4::G5::G6::G7::G8::G9::H0::H1::H2::H3::H4::H5::H6::H7::H8::H9::I0::I1::I2::I3::I4::I5::I6::I7::I8::I9::J0::J1::J2::J3::J4::J5::J6::J7::J8::J9::L0::L1::L2::L3::L4::L5::L6::L7::L8::L9::M0::M1::M2::M3::M4::M5::M6::M7::M8::M9::N0::N1::N2::N3::N4::N5::N6::N7::N8::N9::O0::O1::O2::O3::O4::O5::O6::O7::O8::O9::P0::[]) w := Eq.mp (by kernel_rfl) h

theorem slices_pdqsortOrdered_uint64_A4_r {K : KV} {B1 : KE} {w : World}
    (h : bin Try.prog BinOp.sub 3 false false mid14 a1 (fun M2 w =>
    bin Try.prog BinOp.sub 3 false false b2 mid14 (fun M5 w =>
    bin Try.prog BinOp.quo 3 false true length10 (Value.int IntKind.i64 8) (fun M7 w =>
    bin Try.prog BinOp.lss 3 false false M2 M5 (fun N0 w =>
    cond N0
      (bin Try.prog BinOp.geq 3 false false M2 M7 (fun N3 w =>
      call Try.prog 24 #[data0, a1, mid14, limit3] (fun N8 w =>
      bin Try.prog BinOp.add 3 false true mid14 (Value.int IntKind.i64 1) (fun O0 w =>
      B1 (data0::O0::b2::limit3::data4::a5::b6::limit7::N3::alreadyPartitioned15::length10::pivot11::hint12::mid13::mid14::alreadyPartitioned15::M2::M5::M7::C6::C7::C8::C9::D0::D1::D2::D3::D4::D5::D6::D7::D8::D9::E0::E1::E2::E3::E4::E5::E6::E7::E8::E9::F0::F1::F2::F3::F4::F5::F6::F7::F8::F9::G0::G1::G2::G3::G4::G5::G6::G7::G8::G9::H0::H1::H2::H3::H4::H5::H6::H7::H8::H9::I0::I1::I2::I3::I4::I5::I6::I7::I8::I9::J0::J1::J2::J3::J4::J5::J6::J7::J8::J9::L0::L1::L2::L3::L4::L5::L6::L7::L8::alreadyPartitioned15::mid14::a1::M2::b2::mid14::M5::length10::M7::M2::M5::N0::M2::M7::N3::data0::a1::mid14::limit3::N8::mid14::O0::O1::O2::O3::O4::O5::O6::O7::O8::O9::P0::[]) w) w) w) w)
      (bin Try.prog BinOp.geq 3 false false M5 M7 (fun O3 w =>
      bin Try.prog BinOp.add 3 false true mid14 (Value.int IntKind.i64 1) (fun O6 w =>
      call Try.prog 24 #[data0, O6, b2, limit3] (fun O9 w =>
      B1 (data0::a1::mid14::limit3::data4::a5::b6::limit7::O3::alreadyPartitioned15::length10::pivot11::hint12::mid13::mid14::alreadyPartitioned15::M2::M5::M7::C6::C7::C8::C9::D0::D1::D2::D3::D4::D5::D6::D7::D8::D9::E0::E1::E2::E3::E4::E5::E6::E7::E8::E9::F0::F1::F2::F3::F4::F5::F6::F7::F8::F9::G0::G1::G2::G3::G4::G5::G6::G7::G8::G9::H0::H1::H2::H3::H4::H5::H6::H7::H8::H9::I0::I1::I2::I3::I4::I5::I6::I7::I8::I9::J0::J1::J2::J3::J4::J5::J6::J7::J8::J9::L0::L1::L2::L3::L4::L5::L6::L7::L8::alreadyPartitioned15::mid14::a1::M2::b2::mid14::M5::length10::M7::M2::M5::N0::N1::N2::N3::N4::N5::N6::N7::N8::N9::O0::M5::M7::O3::data0::mid14::O6::b2::limit3::O9::mid14::[]) w) w) w) w)) w) w) w) w) :
    slices_pdqsortOrdered_uint64_A4 K B1 (data0::a1::b2::limit3::data4::a5::b6::limit7::wasBalanced8::wasPartitioned9::length10::pivot11::hint12::mid13::mid14::alreadyPartitioned15::leftLen16::rightLen17::balanceThreshold18::C6::C7::C8::C9::D0::D1::D2::D3::D4::D5::D6::D7::D8::D9::E0::E1::E2::E3::E4::E5::E6::E7::E8::E9::F0::F1::F2::F3::F4::F5::F6::F7::F8::F9::G0::G1::G2::G3::G4::G5::G6::G7::G8::G9::H0::H1::H2::H3::H4::H5::H6::H7::H8::H9::I0::I1::I2::I3::I4::I5::I6::I7::I8::I9::J0::J1::J2::J3::J4::J5::J6::J7::J8::J9::L0::L1::L2::L3::L4::L5::L6::L7::L8::L9::M0::M1::M2::M3::M4::M5::M6::M7::M8::M9::N0::N1::N2::N3::N4::N5::N6::N7::N8::N9::O0::O1::O2::O3::O4::O5::O6::O7::O8::O9::P0::[]) w := by
  delta slices_pdqsortOrdered_uint64_A4
  exact Eq.mp (congrArg (fun c => cCode Try.prog c B1 (fun i => @Bool.rec (fun _ => KE) ((fun i => @Bool.rec (fun _ => KE) ((fun _ _ _ => False) i) (retK Try.prog Try.f24.results.toList K) (Nat.beq i 0)) i) B1 (Nat.beq i 1)) (retK Try.prog Try.f24.results.toList K) (data0::a1::b2::limit3::data4::a5::b6::limit7::wasBalanced8::wasPartitioned9::length10::pivot11::hint12::mid13::mid14::alreadyPartitioned15::leftLen16::rightLen17::balanceThreshold18::C6::C7::C8::C9::D0::D1::D2::D3::D4::D5::D6::D7::D8::D9::E0::E1::E2::E3::E4::E5::E6::E7::E8::E9::F0::F1::F2::F3::F4::F5::F6::F7::F8::F9::G0::G1::G2::G3::G4::G5::G6::G7::G8::G9::H0::H1::H2::H3::H4::H5::H6::H7::H8::H9::I0::I1::I2::I3::I4::I5::I6::I7::I8::I9::J0::J1::J2::J3::J4::J5::J6::J7::J8::J9::L0::L1::L2::L3::L4::L5::L6::L7::L8::L9::M0::M1::M2::M3::M4::M5::M6::M7::M8::M9::N0::N1::N2::N3::N4::N5::N6::N7::N8::N9::O0::O1::O2::O3::O4::O5::O6::O7::O8::O9::P0::[]) w) (by kernel_rfl : (cd Try.f24 [1, 1, 0, 0, 0, 1, 1, 1, 1, 1, 1, 1, 1, 1]) = (cd Try.f24 [1, 1, 0, 0, 0, 1, 1, 1, 1, 1, 1, 1, 1, 1]))) (slices_pdqsortOrdered_uint64_A4_k B1 h)
attribute [irreducible] slices_pdqsortOrdered_uint64_L1 slices_pdqsortOrdered_uint64_P1 slices_pdqsortOrdered_uint64_A1 slices_pdqsortOrdered_uint64_P2 slices_pdqsortOrdered_uint64_A2 slices_pdqsortOrdered_uint64_P3 slices_pdqsortOrdered_uint64_A3 slices_pdqsortOrdered_uint64_A4


end
theorem math_bits_Len_k {K : KV} {x0 : Value} {w : World}
    (h : cond (Value.bool false)
      (conv Try.prog 56 95 x0 (fun A1 w =>
      call Try.prog 35 #[A1] (fun A2 w =>
      K A2 w) w) w)
      (call Try.prog 36 #[x0] (fun A4 w =>
    K A4 w) w)) :
    cCode Try.prog (cd Try.f25 []) (retK Try.prog Try.f25.results.toList K) (fun _ _ _ => False) (retK Try.prog Try.f25.results.toList K) [x0, undef, undef, undef, undef, undef, undef, undef] w := Eq.mp (by kernel_rfl) h

theorem math_bits_Len_in {K : KV} {x0 : Value} {w : World}
    (h : cond (Value.bool false)
      (conv Try.prog 56 95 x0 (fun A1 w =>
      call Try.prog 35 #[A1] (fun A2 w =>
      K A2 w) w) w)
      (call Try.prog 36 #[x0] (fun A4 w =>
    K A4 w) w)) :
    Gives Try.prog 25 #[x0] w K := enter' Try.func25 (by kernel_rfl) (Eq.mp (congrArg (fun c => cCode Try.prog c (retK Try.prog Try.f25.results.toList K) (fun _ _ _ => False) (retK Try.prog Try.f25.results.toList K) [x0, undef, undef, undef, undef, undef, undef, undef] w) (by kernel_rfl : (cd Try.f25 []) = (cd Try.f25 []))) (math_bits_Len_k h))
theorem math_bits_Len_go : isGo Try.prog 25 := ⟨_, Try.func25, by kernel_rfl, by kernel_rfl⟩

def slices_insertionSortOrdered_uint64_L1 (K : KV) : KE := cCode Try.prog (cd Try.f26 [1, 0]) (retK Try.prog Try.f26.results.toList K) (fun i => @Bool.rec (fun _ => KE) ((fun _ _ _ => False) i) (retK Try.prog Try.f26.results.toList K) (Nat.beq i 0)) (retK Try.prog Try.f26.results.toList K)
def slices_insertionSortOrdered_uint64_P1 (K : KV) (B1 : KE) : KE := cCode Try.prog (cd Try.f26 [1, 0, 0, 1, 1]) B1 (fun i => @Bool.rec (fun _ => KE) ((fun _ _ _ => False) i) (retK Try.prog Try.f26.results.toList K) (Nat.beq i 0)) (retK Try.prog Try.f26.results.toList K)
def slices_insertionSortOrdered_uint64_L2 (K : KV) (B1 : KE) : KE := cCode Try.prog (cd Try.f26 [1, 0, 0, 1, 0, 0, 1, 0]) (slices_insertionSortOrdered_uint64_P1 K B1) (fun i => @Bool.rec (fun _ => KE) ((fun i => @Bool.rec (fun _ => KE) ((fun i => @Bool.rec (fun _ => KE) ((fun _ _ _ => False) i) (retK Try.prog Try.f26.results.toList K) (Nat.beq i 0)) i) (slices_insertionSortOrdered_uint64_P1 K B1) (Nat.beq i 1)) i) (slices_insertionSortOrdered_uint64_P1 K B1) (Nat.beq i 2)) (retK Try.prog Try.f26.results.toList K)
theorem slices_insertionSortOrdered_uint64_k {K : KV} {data0 a1 b2 : Value} {w : World}
    (h : bin Try.prog BinOp.add 3 false true a1 (Value.int IntKind.i64 1) (fun A6 w =>
    (cCode Try.prog (cd Try.f26 [1, 0]) (retK Try.prog Try.f26.results.toList K) (fun i => @Bool.rec (fun _ => KE) ((fun _ _ _ => False) i) (retK Try.prog Try.f26.results.toList K) (Nat.beq i 0)) (retK Try.prog Try.f26.results.toList K)) (data0::a1::b2::undef::undef::undef::A6::undef::a1::A6::undef::undef::undef::undef::undef::undef::undef::undef::undef::undef::undef::undef::undef::undef::undef::undef::undef::undef::undef::undef::undef::undef::undef::undef::undef::undef::undef::undef::undef::undef::undef::undef::undef::undef::undef::undef::undef::undef::undef::[]) w) w) :
    cCode Try.prog (cd Try.f26 []) (retK Try.prog Try.f26.results.toList K) (fun _ _ _ => False) (retK Try.prog Try.f26.results.toList K) (data0::a1::b2::undef::undef::undef::undef::undef::undef::undef::undef::undef::undef::undef::undef::undef::undef::undef::undef::undef::undef::undef::undef::undef::undef::undef::undef::undef::undef::undef::undef::undef::undef::undef::undef::undef::undef::undef::undef::undef::undef::undef::undef::undef::undef::undef::undef::undef::undef::[]) w := Eq.mp (by kernel_rfl) h

theorem slices_insertionSortOrdered_uint64_in {K : KV} {data0 a1 b2 : Value} {w : World}
    (h : bin Try.prog BinOp.add 3 false true a1 (Value.int IntKind.i64 1) (fun A6 w =>
    (slices_insertionSortOrdered_uint64_L1 K) (data0::a1::b2::undef::undef::undef::A6::undef::a1::A6::undef::undef::undef::undef::undef::undef::undef::undef::undef::undef::undef::undef::undef::undef::undef::undef::undef::undef::undef::undef::undef::undef::undef::undef::undef::undef::undef::undef::undef::undef::undef::undef::undef::undef::undef::undef::undef::undef::undef::[]) w) w) :
    Gives Try.prog 26 #[data0, a1, b2] w K := enter' Try.func26 (by kernel_rfl) (Eq.mp (congrArg (fun c => cCode Try.prog c (retK Try.prog Try.f26.results.toList K) (fun _ _ _ => False) (retK Try.prog Try.f26.results.toList K) (data0::a1::b2::undef::undef::undef::undef::undef::undef::undef::undef::undef::undef::undef::undef::undef::undef::undef::undef::undef::undef::undef::undef::undef::undef::undef::undef::undef::undef::undef::undef::undef::undef::undef::undef::undef::undef::undef::undef::undef::undef::undef::undef::undef::undef::undef::undef::undef::undef::[]) w) (by kernel_rfl : (cd Try.f26 []) = (cd Try.f26 []))) (slices_insertionSortOrdered_uint64_k h))
theorem slices_insertionSortOrdered_uint64_go : isGo Try.prog 26 := ⟨_, Try.func26, by kernel_rfl, by kernel_rfl⟩

theorem slices_insertionSortOrdered_uint64_L1_k {K : KV} (B1 : KE) {data0 a1 b2 data3 a4 b5 i6' A5 A6 C7' C8' C9' D0' D1' D2' D3' D4' D5' D6' : Value} {dd : Nat → Value} {w : World}
    (h : bin Try.prog BinOp.lss 3 false false i6' b2 (fun A9 w =>
    cond A9
      ((cCode Try.prog (cd Try.f26 [1, 0, 0, 1, 0, 0, 1, 0]) (cCode Try.prog (cd Try.f26 [1, 0, 0, 1, 1]) B1 (fun i => @Bool.rec (fun _ => KE) ((fun _ _ _ => False) i) (retK Try.prog Try.f26.results.toList K) (Nat.beq i 0)) (retK Try.prog Try.f26.results.toList K)) (fun i => @Bool.rec (fun _ => KE) ((fun i => @Bool.rec (fun _ => KE) ((fun i => @Bool.rec (fun _ => KE) ((fun _ _ _ => False) i) (retK Try.prog Try.f26.results.toList K) (Nat.beq i 0)) i) (cCode Try.prog (cd Try.f26 [1, 0, 0, 1, 1]) B1 (fun i => @Bool.rec (fun _ => KE) ((fun _ _ _ => False) i) (retK Try.prog Try.f26.results.toList K) (Nat.beq i 0)) (retK Try.prog Try.f26.results.toList K)) (Nat.beq i 1)) i) (cCode Try.prog (cd Try.f26 [1, 0, 0, 1, 1]) B1 (fun i => @Bool.rec (fun _ => KE) ((fun _ _ _ => False) i) (retK Try.prog Try.f26.results.toList K) (Nat.beq i 0)) (retK Try.prog Try.f26.results.toList K)) (Nat.beq i 2)) (retK Try.prog Try.f26.results.toList K)) (data0::a1::b2::data3::a4::b5::i6'::i6'::A5::A6::i6'::b2::A9::(dd 13)::(dd 14)::i6'::(dd 16)::(dd 17)::(dd 18)::(dd 19)::C7'::C8'::C9'::D0'::D1'::D2'::D3'::D4'::D5'::D6'::(dd 30)::(dd 31)::(dd 32)::(dd 33)::(dd 34)::(dd 35)::(dd 36)::(dd 37)::(dd 38)::(dd 39)::(dd 40)::(dd 41)::(dd 42)::(dd 43)::(dd 44)::(dd 45)::(dd 46)::(dd 47)::(dd 48)::[]) w)
      (K (Value.tuple #[]) w)) w) :
    cCode Try.prog (cd Try.f26 [1, 0, 0]) B1 (fun i => @Bool.rec (fun _ => KE) ((fun _ _ _ => False) i) (retK Try.prog Try.f26.results.toList K) (Nat.beq i 0)) (retK Try.prog Try.f26.results.toList K) (data0::a1::b2::data3::a4::b5::i6'::(dd 7)::A5::A6::(dd 10)::(dd 11)::(dd 12)::(dd 13)::(dd 14)::(dd 15)::(dd 16)::(dd 17)::(dd 18)::(dd 19)::C7'::C8'::C9'::D0'::D1'::D2'::D3'::D4'::D5'::D6'::(dd 30)::(dd 31)::(dd 32)::(dd 33)::(dd 34)::(dd 35)::(dd 36)::(dd 37)::(dd 38)::(dd 39)::(dd 40)::(dd 41)::(dd 42)::(dd 43)::(dd 44)::(dd 45)::(dd 46)::(dd 47)::(dd 48)::[]) w := Eq.mp (by kernel_rfl) h

section
variable {data0 a1 b2 data3 a4 b5 i6 j7 A5 A6 A7 A8 A9 C0 C1 C2 C3 C4 C5 C6 C7 C8 C9 D0 D1 D2 D3 D4 D5 D6 D7 D8 D9 E0 E1 E2 E3 E4 E5 E6 E7 E8 E9 F0 F1 F2 F3 F4 F5 : Value}
theorem slices_insertionSortOrdered_uint64_L1_r {K : KV} {w : World} (Inv : Value → Value → Value → Value → Value → Value → Value → Value → Value → Value → Value → World → Prop) (μ : Value → Value → Value → Value → Value → Value → Value → Value → Value → Value → Value → World → Nat) (h0 : Inv i6 C7 C8 C9 D0 D1 D2 D3 D4 D5 D6 w)
    (hs : ∀ (i6' C7' C8' C9' D0' D1' D2' D3' D4' D5' D6' : Value) (dd : Nat → Value) (w : World) (m : Nat), Inv i6' C7' C8' C9' D0' D1' D2' D3' D4' D5' D6' w → m = μ i6' C7' C8' C9' D0' D1' D2' D3' D4' D5' D6' w →
    bin Try.prog BinOp.lss 3 false false i6' b2 (fun A9 w =>
    cond A9
      ((slices_insertionSortOrdered_uint64_L2 K (fun e2 w2 => Inv (gd e2 6) (gd e2 20) (gd e2 21) (gd e2 22) (gd e2 23) (gd e2 24) (gd e2 25) (gd e2 26) (gd e2 27) (gd e2 28) (gd e2 29) w2 ∧ μ (gd e2 6) (gd e2 20) (gd e2 21) (gd e2 22) (gd e2 23) (gd e2 24) (gd e2 25) (gd e2 26) (gd e2 27) (gd e2 28) (gd e2 29) w2 < m)) (data0::a1::b2::data3::a4::b5::i6'::i6'::A5::A6::i6'::b2::A9::(dd 13)::(dd 14)::i6'::(dd 16)::(dd 17)::(dd 18)::(dd 19)::C7'::C8'::C9'::D0'::D1'::D2'::D3'::D4'::D5'::D6'::(dd 30)::(dd 31)::(dd 32)::(dd 33)::(dd 34)::(dd 35)::(dd 36)::(dd 37)::(dd 38)::(dd 39)::(dd 40)::(dd 41)::(dd 42)::(dd 43)::(dd 44)::(dd 45)::(dd 46)::(dd 47)::(dd 48)::[]) w)
      (K (Value.tuple #[]) w)) w) :
    slices_insertionSortOrdered_uint64_L1 K (data0::a1::b2::data3::a4::b5::i6::j7::A5::A6::A7::A8::A9::C0::C1::C2::C3::C4::C5::C6::C7::C8::C9::D0::D1::D2::D3::D4::D5::D6::D7::D8::D9::E0::E1::E2::E3::E4::E5::E6::E7::E8::E9::F0::F1::F2::F3::F4::F5::[]) w := by
  refine loop_rule (cd Try.f26 [1, 0, 0]) [6, 7, 10, 11, 12, 13, 14, 15, 16, 17, 18, 19, 20, 21, 22, 23, 24, 25, 26, 27, 28, 29, 30, 31, 32, 33, 34, 35, 36, 37, 38, 39, 40, 41, 42, 43, 44, 45, 46, 47, 48] (by kernel_rfl) (fun e2 w2 => Inv (gd e2 6) (gd e2 20) (gd e2 21) (gd e2 22) (gd e2 23) (gd e2 24) (gd e2 25) (gd e2 26) (gd e2 27) (gd e2 28) (gd e2 29) w2) (fun e2 w2 => μ (gd e2 6) (gd e2 20) (gd e2 21) (gd e2 22) (gd e2 23) (gd e2 24) (gd e2 25) (gd e2 26) (gd e2 27) (gd e2 28) (gd e2 29) w2) h0 ?_
  intro e' w' hI
  have h := hs (gd e' 6) (gd e' 20) (gd e' 21) (gd e' 22) (gd e' 23) (gd e' 24) (gd e' 25) (gd e' 26) (gd e' 27) (gd e' 28) (gd e' 29) (fun i => gd e' i) w' _ hI rfl
  have h2 : cCode Try.prog (cd Try.f26 [1, 0, 0]) (fun e2 w2 => Inv (gd e2 6) (gd e2 20) (gd e2 21) (gd e2 22) (gd e2 23) (gd e2 24) (gd e2 25) (gd e2 26) (gd e2 27) (gd e2 28) (gd e2 29) w2 ∧ μ (gd e2 6) (gd e2 20) (gd e2 21) (gd e2 22) (gd e2 23) (gd e2 24) (gd e2 25) (gd e2 26) (gd e2 27) (gd e2 28) (gd e2 29) w2 < μ (gd e' 6) (gd e' 20) (gd e' 21) (gd e' 22) (gd e' 23) (gd e' 24) (gd e' 25) (gd e' 26) (gd e' 27) (gd e' 28) (gd e' 29) w') (fun i => @Bool.rec (fun _ => KE) ((fun _ _ _ => False) i) (retK Try.prog Try.f26.results.toList K) (Nat.beq i 0)) (retK Try.prog Try.f26.results.toList K) (data0::a1::b2::data3::a4::b5::(gd e' 6)::(gd e' 7)::A5::A6::(gd e' 10)::(gd e' 11)::(gd e' 12)::(gd e' 13)::(gd e' 14)::(gd e' 15)::(gd e' 16)::(gd e' 17)::(gd e' 18)::(gd e' 19)::(gd e' 20)::(gd e' 21)::(gd e' 22)::(gd e' 23)::(gd e' 24)::(gd e' 25)::(gd e' 26)::(gd e' 27)::(gd e' 28)::(gd e' 29)::(gd e' 30)::(gd e' 31)::(gd e' 32)::(gd e' 33)::(gd e' 34)::(gd e' 35)::(gd e' 36)::(gd e' 37)::(gd e' 38)::(gd e' 39)::(gd e' 40)::(gd e' 41)::(gd e' 42)::(gd e' 43)::(gd e' 44)::(gd e' 45)::(gd e' 46)::(gd e' 47)::(gd e' 48)::[]) w' := slices_insertionSortOrdered_uint64_L1_k (fun e2 w2 => Inv (gd e2 6) (gd e2 20) (gd e2 21) (gd e2 22) (gd e2 23) (gd e2 24) (gd e2 25) (gd e2 26) (gd e2 27) (gd e2 28) (gd e2 29) w2 ∧ μ (gd e2 6) (gd e2 20) (gd e2 21) (gd e2 22) (gd e2 23) (gd e2 24) (gd e2 25) (gd e2 26) (gd e2 27) (gd e2 28) (gd e2 29) w2 < μ (gd e' 6) (gd e' 20) (gd e' 21) (gd e' 22) (gd e' 23) (gd e' 24) (gd e' 25) (gd e' 26) (gd e' 27) (gd e' 28) (gd e' 29) w') (Eq.mp (by kernel_rfl) h)
  exact Eq.mp (by kernel_rfl) h2

end
theorem slices_insertionSortOrdered_uint64_L2_k {K : KV} (B1 : KE) (B2 : KE) (qc0 : KE) {data0 a1 b2 data3 a4 b5 i6 j7' A5 A6 A7 A8 A9 C0 C1 C2 C7' C8' C9' D0' D1' D2' D3' D4' D5' D6' : Value} {dd : Nat → Value} {w : World}
    (h : (fun w =>
    sti (fun k w => bin Try.prog BinOp.gtr 3 false false j7' a1 k w) (fun C5 w =>
    gsel C5 true (fun k20 =>
    sti (fun k w => idxA Try.prog 47 data0 j7' k w) (fun C9 w =>
    sti (fun k w => ld Try.prog 33 C9 k w) (fun D0 w =>
    sti (fun k w => bin Try.prog BinOp.sub 3 false true j7' (Value.int IntKind.i64 1) k w) (fun D3 w =>
    sti (fun k w => idxA Try.prog 47 data0 D3 k w) (fun D4 w =>
    sti (fun k w => ld Try.prog 33 D4 k w) (fun D5 w =>
    sti (fun k w => call Try.prog 32 #[D0, D5] k w) (fun D6 w =>
    k20 [data0, j7', C9, D0, data0, j7', D3, D4, D5, D6] w) w) w) w) w) w) w)
    (fun k => k [undef, undef, undef, undef, undef, undef, undef, undef, undef, undef] w) (fun us20 w =>
    sti (fun k w => pick C5 (gd us20 9) (Value.bool false) k w) (fun D7 w =>
    cond D7
      (hReg (fun S w =>
    hld (fun _ => True) (fun k w => bin Try.prog BinOp.sub 3 false true j7' (Value.int IntKind.i64 1) k w) (fun E4 =>
    hld (fun _ => True) (fun k w => bin Try.prog BinOp.sub 3 false true j7' (Value.int IntKind.i64 1) k w) (fun E7 =>
    hld S (fun k w => idxA Try.prog 47 data0 E7 k w) (fun E8 =>
    hld S (fun k w => ld Try.prog 33 E8 k w) (fun E9 =>
    hld S (fun k w => idxA Try.prog 47 data0 j7' k w) (fun F2 =>
    hld S (fun k w => ld Try.prog 33 F2 k w) (fun F3 =>
    hld S (fun k w => idxA Try.prog 47 data0 j7' k w) (fun F4 =>
    sto Try.prog 33 F4 E9 (fun _t w =>
    hReg (fun S w =>
    hld S (fun k w => idxA Try.prog 47 data0 E4 k w) (fun F5 =>
    sto Try.prog 33 F5 F3 (fun _t w =>
    bin Try.prog BinOp.sub 3 false true j7' (Value.int IntKind.i64 1) (fun D9 w =>
    B2 (data0::a1::b2::data3::a4::b5::i6::D9::A5::A6::A7::A8::A9::C0::C1::C2::j7'::a1::C5::C5::(gd us20 0)::(gd us20 1)::(gd us20 2)::(gd us20 3)::(gd us20 4)::(gd us20 5)::(gd us20 6)::(gd us20 7)::(gd us20 8)::(gd us20 9)::D7::j7'::D9::data0::j7'::data0::j7'::E4::data0::j7'::E7::E8::E9::data0::j7'::F2::F3::F4::F5::[]) w) w) w)) w) w)))))))) w.drew)
      (qc0 (data0::a1::b2::data3::a4::b5::i6::j7'::A5::A6::A7::A8::A9::C0::C1::C2::j7'::a1::C5::C5::(gd us20 0)::(gd us20 1)::(gd us20 2)::(gd us20 3)::(gd us20 4)::(gd us20 5)::(gd us20 6)::(gd us20 7)::(gd us20 8)::(gd us20 9)::D7::(dd 31)::(dd 32)::(dd 33)::(dd 34)::(dd 35)::(dd 36)::(dd 37)::(dd 38)::(dd 39)::(dd 40)::(dd 41)::(dd 42)::(dd 43)::(dd 44)::(dd 45)::(dd 46)::(dd 47)::(dd 48)::[]) w)) w)) w) w.drew) :
    cCode Try.prog (cd Try.f26 [1, 0, 0, 1, 0, 0, 1, 0, 0]) B2 (fun i => @Bool.rec (fun _ => KE) ((fun i => @Bool.rec (fun _ => KE) ((fun i => @Bool.rec (fun _ => KE) ((fun _ _ _ => False) i) (retK Try.prog Try.f26.results.toList K) (Nat.beq i 0)) i) qc0 (Nat.beq i 1)) i) qc0 (Nat.beq i 2)) (retK Try.prog Try.f26.results.toList K) (data0::a1::b2::data3::a4::b5::i6::j7'::A5::A6::A7::A8::A9::C0::C1::C2::(dd 16)::(dd 17)::(dd 18)::(dd 19)::C7'::C8'::C9'::D0'::D1'::D2'::D3'::D4'::D5'::D6'::(dd 30)::(dd 31)::(dd 32)::(dd 33)::(dd 34)::(dd 35)::(dd 36)::(dd 37)::(dd 38)::(dd 39)::(dd 40)::(dd 41)::(dd 42)::(dd 43)::(dd 44)::(dd 45)::(dd 46)::(dd 47)::(dd 48)::[]) w := Eq.mp (by kernel_rfl) h

section
variable {data0 a1 b2 data3 a4 b5 i6 j7 A5 A6 A7 A8 A9 C0 C1 C2 C3 C4 C5 C6 C7 C8 C9 D0 D1 D2 D3 D4 D5 D6 D7 D8 D9 E0 E1 E2 E3 E4 E5 E6 E7 E8 E9 F0 F1 F2 F3 F4 F5 : Value}
theorem slices_insertionSortOrdered_uint64_L2_r {K : KV} {B1 : KE} {w : World} (Inv : Value → Value → Value → Value → Value → Value → Value → Value → Value → Value → Value → World → Prop) (μ : Value → Value → Value → Value → Value → Value → Value → Value → Value → Value → Value → World → Nat) (h0 : Inv j7 C7 C8 C9 D0 D1 D2 D3 D4 D5 D6 w)
    (hs : ∀ (j7' C7' C8' C9' D0' D1' D2' D3' D4' D5' D6' : Value) (dd : Nat → Value) (w : World) (m : Nat), Inv j7' C7' C8' C9' D0' D1' D2' D3' D4' D5' D6' w → m = μ j7' C7' C8' C9' D0' D1' D2' D3' D4' D5' D6' w →
    (fun w =>
    sti (fun k w => bin Try.prog BinOp.gtr 3 false false j7' a1 k w) (fun C5 w =>
    gsel C5 true (fun k20 =>
    sti (fun k w => idxA Try.prog 47 data0 j7' k w) (fun C9 w =>
    sti (fun k w => ld Try.prog 33 C9 k w) (fun D0 w =>
    sti (fun k w => bin Try.prog BinOp.sub 3 false true j7' (Value.int IntKind.i64 1) k w) (fun D3 w =>
    sti (fun k w => idxA Try.prog 47 data0 D3 k w) (fun D4 w =>
    sti (fun k w => ld Try.prog 33 D4 k w) (fun D5 w =>
    sti (fun k w => call Try.prog 32 #[D0, D5] k w) (fun D6 w =>
    k20 [data0, j7', C9, D0, data0, j7', D3, D4, D5, D6] w) w) w) w) w) w) w)
    (fun k => k [undef, undef, undef, undef, undef, undef, undef, undef, undef, undef] w) (fun us20 w =>
    sti (fun k w => pick C5 (gd us20 9) (Value.bool false) k w) (fun D7 w =>
    cond D7
      (hReg (fun S w =>
    hld (fun _ => True) (fun k w => bin Try.prog BinOp.sub 3 false true j7' (Value.int IntKind.i64 1) k w) (fun E4 =>
    hld (fun _ => True) (fun k w => bin Try.prog BinOp.sub 3 false true j7' (Value.int IntKind.i64 1) k w) (fun E7 =>
    hld S (fun k w => idxA Try.prog 47 data0 E7 k w) (fun E8 =>
    hld S (fun k w => ld Try.prog 33 E8 k w) (fun E9 =>
    hld S (fun k w => idxA Try.prog 47 data0 j7' k w) (fun F2 =>
    hld S (fun k w => ld Try.prog 33 F2 k w) (fun F3 =>
    hld S (fun k w => idxA Try.prog 47 data0 j7' k w) (fun F4 =>
    sto Try.prog 33 F4 E9 (fun _t w =>
    hReg (fun S w =>
    hld S (fun k w => idxA Try.prog 47 data0 E4 k w) (fun F5 =>
    sto Try.prog 33 F5 F3 (fun _t w =>
    bin Try.prog BinOp.sub 3 false true j7' (Value.int IntKind.i64 1) (fun D9 w =>
    (Inv D9 (gd us20 0) (gd us20 1) (gd us20 2) (gd us20 3) (gd us20 4) (gd us20 5) (gd us20 6) (gd us20 7) (gd us20 8) (gd us20 9) w ∧ μ D9 (gd us20 0) (gd us20 1) (gd us20 2) (gd us20 3) (gd us20 4) (gd us20 5) (gd us20 6) (gd us20 7) (gd us20 8) (gd us20 9) w < m)) w) w)) w) w)))))))) w.drew)
      ((slices_insertionSortOrdered_uint64_P1 K B1) (data0::a1::b2::data3::a4::b5::i6::j7'::A5::A6::A7::A8::A9::C0::C1::C2::j7'::a1::C5::C5::(gd us20 0)::(gd us20 1)::(gd us20 2)::(gd us20 3)::(gd us20 4)::(gd us20 5)::(gd us20 6)::(gd us20 7)::(gd us20 8)::(gd us20 9)::D7::(dd 31)::(dd 32)::(dd 33)::(dd 34)::(dd 35)::(dd 36)::(dd 37)::(dd 38)::(dd 39)::(dd 40)::(dd 41)::(dd 42)::(dd 43)::(dd 44)::(dd 45)::(dd 46)::(dd 47)::(dd 48)::[]) w)) w)) w) w.drew) :
    slices_insertionSortOrdered_uint64_L2 K B1 (data0::a1::b2::data3::a4::b5::i6::j7::A5::A6::A7::A8::A9::C0::C1::C2::C3::C4::C5::C6::C7::C8::C9::D0::D1::D2::D3::D4::D5::D6::D7::D8::D9::E0::E1::E2::E3::E4::E5::E6::E7::E8::E9::F0::F1::F2::F3::F4::F5::[]) w := by
  refine loop_rule (cd Try.f26 [1, 0, 0, 1, 0, 0, 1, 0, 0]) [7, 16, 17, 18, 19, 20, 21, 22, 23, 24, 25, 26, 27, 28, 29, 30, 31, 32, 33, 34, 35, 36, 37, 38, 39, 40, 41, 42, 43, 44, 45, 46, 47, 48] (by kernel_rfl) (fun e2 w2 => Inv (gd e2 7) (gd e2 20) (gd e2 21) (gd e2 22) (gd e2 23) (gd e2 24) (gd e2 25) (gd e2 26) (gd e2 27) (gd e2 28) (gd e2 29) w2) (fun e2 w2 => μ (gd e2 7) (gd e2 20) (gd e2 21) (gd e2 22) (gd e2 23) (gd e2 24) (gd e2 25) (gd e2 26) (gd e2 27) (gd e2 28) (gd e2 29) w2) h0 ?_
  intro e' w' hI
  have h := hs (gd e' 7) (gd e' 20) (gd e' 21) (gd e' 22) (gd e' 23) (gd e' 24) (gd e' 25) (gd e' 26) (gd e' 27) (gd e' 28) (gd e' 29) (fun i => gd e' i) w' _ hI rfl
  have h2 : cCode Try.prog (cd Try.f26 [1, 0, 0, 1, 0, 0, 1, 0, 0]) (fun e2 w2 => Inv (gd e2 7) (gd e2 20) (gd e2 21) (gd e2 22) (gd e2 23) (gd e2 24) (gd e2 25) (gd e2 26) (gd e2 27) (gd e2 28) (gd e2 29) w2 ∧ μ (gd e2 7) (gd e2 20) (gd e2 21) (gd e2 22) (gd e2 23) (gd e2 24) (gd e2 25) (gd e2 26) (gd e2 27) (gd e2 28) (gd e2 29) w2 < μ (gd e' 7) (gd e' 20) (gd e' 21) (gd e' 22) (gd e' 23) (gd e' 24) (gd e' 25) (gd e' 26) (gd e' 27) (gd e' 28) (gd e' 29) w') (fun i => @Bool.rec (fun _ => KE) ((fun i => @Bool.rec (fun _ => KE) ((fun i => @Bool.rec (fun _ => KE) ((fun _ _ _ => False) i) (retK Try.prog Try.f26.results.toList K) (Nat.beq i 0)) i) (slices_insertionSortOrdered_uint64_P1 K B1) (Nat.beq i 1)) i) (slices_insertionSortOrdered_uint64_P1 K B1) (Nat.beq i 2)) (retK Try.prog Try.f26.results.toList K) (data0::a1::b2::data3::a4::b5::i6::(gd e' 7)::A5::A6::A7::A8::A9::C0::C1::C2::(gd e' 16)::(gd e' 17)::(gd e' 18)::(gd e' 19)::(gd e' 20)::(gd e' 21)::(gd e' 22)::(gd e' 23)::(gd e' 24)::(gd e' 25)::(gd e' 26)::(gd e' 27)::(gd e' 28)::(gd e' 29)::(gd e' 30)::(gd e' 31)::(gd e' 32)::(gd e' 33)::(gd e' 34)::(gd e' 35)::(gd e' 36)::(gd e' 37)::(gd e' 38)::(gd e' 39)::(gd e' 40)::(gd e' 41)::(gd e' 42)::(gd e' 43)::(gd e' 44)::(gd e' 45)::(gd e' 46)::(gd e' 47)::(gd e' 48)::[]) w' := slices_insertionSortOrdered_uint64_L2_k B1 (fun e2 w2 => Inv (gd e2 7) (gd e2 20) (gd e2 21) (gd e2 22) (gd e2 23) (gd e2 24) (gd e2 25) (gd e2 26) (gd e2 27) (gd e2 28) (gd e2 29) w2 ∧ μ (gd e2 7) (gd e2 20) (gd e2 21) (gd e2 22) (gd e2 23) (gd e2 24) (gd e2 25) (gd e2 26) (gd e2 27) (gd e2 28) (gd e2 29) w2 < μ (gd e' 7) (gd e' 20) (gd e' 21) (gd e' 22) (gd e' 23) (gd e' 24) (gd e' 25) (gd e' 26) (gd e' 27) (gd e' 28) (gd e' 29) w') (slices_insertionSortOrdered_uint64_P1 K B1) (Eq.mp (by kernel_rfl) h)
  exact Eq.mp (by kernel_rfl) h2

theorem slices_insertionSortOrdered_uint64_P1_k {K : KV} (B1 : KE) {w : World}
    (h : bin Try.prog BinOp.add 3 false true i6 (Value.int IntKind.i64 1) (fun C1 w =>
    B1 (data0::a1::b2::data3::a4::b5::C1::j7::A5::A6::A7::A8::A9::i6::C1::C2::C3::C4::C5::C6::C7::C8::C9::D0::D1::D2::D3::D4::D5::D6::D7::D8::D9::E0::E1::E2::E3::E4::E5::E6::E7::E8::E9::F0::F1::F2::F3::F4::F5::[]) w) w) :
    cCode Try.prog (cd Try.f26 [1, 0, 0, 1, 1]) B1 (fun i => @Bool.rec (fun _ => KE) ((fun _ _ _ => False) i) (retK Try.prog Try.f26.results.toList K) (Nat.beq i 0)) (retK Try.prog Try.f26.results.toList K) (data0::a1::b2::data3::a4::b5::i6::j7::A5::A6::A7::A8::A9::C0::C1::C2::C3::C4::C5::C6::C7::C8::C9::D0::D1::D2::D3::D4::D5::D6::D7::D8::D9::E0::E1::E2::E3::E4::E5::E6::E7::E8::E9::F0::F1::F2::F3::F4::F5::[]) w := Eq.mp (by kernel_rfl) h

theorem slices_insertionSortOrdered_uint64_P1_r {K : KV} {B1 : KE} {w : World}
    (h : bin Try.prog BinOp.add 3 false true i6 (Value.int IntKind.i64 1) (fun C1 w =>
    B1 (data0::a1::b2::data3::a4::b5::C1::j7::A5::A6::A7::A8::A9::i6::C1::C2::C3::C4::C5::C6::C7::C8::C9::D0::D1::D2::D3::D4::D5::D6::D7::D8::D9::E0::E1::E2::E3::E4::E5::E6::E7::E8::E9::F0::F1::F2::F3::F4::F5::[]) w) w) :
    slices_insertionSortOrdered_uint64_P1 K B1 (data0::a1::b2::data3::a4::b5::i6::j7::A5::A6::A7::A8::A9::C0::C1::C2::C3::C4::C5::C6::C7::C8::C9::D0::D1::D2::D3::D4::D5::D6::D7::D8::D9::E0::E1::E2::E3::E4::E5::E6::E7::E8::E9::F0::F1::F2::F3::F4::F5::[]) w := by
  delta slices_insertionSortOrdered_uint64_P1
  exact Eq.mp (congrArg (fun c => cCode Try.prog c B1 (fun i => @Bool.rec (fun _ => KE) ((fun _ _ _ => False) i) (retK Try.prog Try.f26.results.toList K) (Nat.beq i 0)) (retK Try.prog Try.f26.results.toList K) (data0::a1::b2::data3::a4::b5::i6::j7::A5::A6::A7::A8::A9::C0::C1::C2::C3::C4::C5::C6::C7::C8::C9::D0::D1::D2::D3::D4::D5::D6::D7::D8::D9::E0::E1::E2::E3::E4::E5::E6::E7::E8::E9::F0::F1::F2::F3::F4::F5::[]) w) (by kernel_rfl : (cd Try.f26 [1, 0, 0, 1, 1]) = (cd Try.f26 [1, 0, 0, 1, 1]))) (slices_insertionSortOrdered_uint64_P1_k B1 h)
attribute [irreducible] slices_insertionSortOrdered_uint64_L1 slices_insertionSortOrdered_uint64_P1 slices_insertionSortOrdered_uint64_L2


end
theorem cmp_Less_uint64_k {K : KV} {x0 y1 : Value} {w : World}
    (h : call Try.prog 42 #[x0] (fun A3 w =>
    gsel A3 true (fun k8 =>
    call Try.prog 42 #[y1] (fun A6 w =>
    un Try.prog UnOp.not A6 (fun A7 w =>
    k8 [y1, A6, A7] w) w) w)
    (fun k => k [undef, undef, undef] w) (fun us8 w =>
    pick A3 (gd us8 2) (Value.bool false) (fun A8 w =>
    gsel A8 false (fun k13 =>
    bin Try.prog BinOp.lss 33 false false x0 y1 (fun C2 w =>
    k13 [x0, y1, C2] w) w)
    (fun k => k [undef, undef, undef] w) (fun us13 w =>
    pick A8 (Value.bool true) (gd us13 2) (fun C3 w =>
    K C3 w) w)) w)) w) :
    cCode Try.prog (cd Try.f32 []) (retK Try.prog Try.f32.results.toList K) (fun _ _ _ => False) (retK Try.prog Try.f32.results.toList K) [x0, y1, undef, undef, undef, undef, undef, undef, undef, undef, undef, undef, undef, undef, undef, undef, undef] w := Eq.mp (by kernel_rfl) h

theorem cmp_Less_uint64_in {K : KV} {x0 y1 : Value} {w : World}
    (h : call Try.prog 42 #[x0] (fun A3 w =>
    gsel A3 true (fun k8 =>
    call Try.prog 42 #[y1] (fun A6 w =>
    un Try.prog UnOp.not A6 (fun A7 w =>
    k8 [y1, A6, A7] w) w) w)
    (fun k => k [undef, undef, undef] w) (fun us8 w =>
    pick A3 (gd us8 2) (Value.bool false) (fun A8 w =>
    gsel A8 false (fun k13 =>
    bin Try.prog BinOp.lss 33 false false x0 y1 (fun C2 w =>
    k13 [x0, y1, C2] w) w)
    (fun k => k [undef, undef, undef] w) (fun us13 w =>
    pick A8 (Value.bool true) (gd us13 2) (fun C3 w =>
    K C3 w) w)) w)) w) :
    Gives Try.prog 32 #[x0, y1] w K := enter' Try.func32 (by kernel_rfl) (Eq.mp (congrArg (fun c => cCode Try.prog c (retK Try.prog Try.f32.results.toList K) (fun _ _ _ => False) (retK Try.prog Try.f32.results.toList K) [x0, y1, undef, undef, undef, undef, undef, undef, undef, undef, undef, undef, undef, undef, undef, undef, undef] w) (by kernel_rfl : (cd Try.f32 []) = (cd Try.f32 []))) (cmp_Less_uint64_k h))
theorem cmp_Less_uint64_go : isGo Try.prog 32 := ⟨_, Try.func32, by kernel_rfl, by kernel_rfl⟩


theorem cmp_isNaN_uint64_k {K : KV} {x0 : Value} {w : World}
    (h : bin Try.prog BinOp.neq 33 false false x0 x0 (fun A2 w =>
    K A2 w) w) :
    cCode Try.prog (cd Try.f42 []) (retK Try.prog Try.f42.results.toList K) (fun _ _ _ => False) (retK Try.prog Try.f42.results.toList K) [x0, undef, undef, undef, undef, undef] w := Eq.mp (by kernel_rfl) h

theorem cmp_isNaN_uint64_in {K : KV} {x0 : Value} {w : World}
    (h : bin Try.prog BinOp.neq 33 false false x0 x0 (fun A2 w =>
    K A2 w) w) :
    Gives Try.prog 42 #[x0] w K := enter' Try.func42 (by kernel_rfl) (Eq.mp (congrArg (fun c => cCode Try.prog c (retK Try.prog Try.f42.results.toList K) (fun _ _ _ => False) (retK Try.prog Try.f42.results.toList K) [x0, undef, undef, undef, undef, undef] w) (by kernel_rfl : (cd Try.f42 []) = (cd Try.f42 []))) (cmp_isNaN_uint64_k h))
theorem cmp_isNaN_uint64_go : isGo Try.prog 42 := ⟨_, Try.func42, by kernel_rfl, by kernel_rfl⟩

def math_bits_Len32_P1 (K : KV) : KE := cCode Try.prog (cd Try.f35 [1, 1]) (retK Try.prog Try.f35.results.toList K) (fun _ _ _ => False) (retK Try.prog Try.f35.results.toList K)
def math_bits_Len32_A1 (K : KV) : KE := cCode Try.prog (cd Try.f35 [1, 0, 1]) (math_bits_Len32_P1 K) (fun _ _ _ => False) (retK Try.prog Try.f35.results.toList K)
def math_bits_Len32_P2 (K : KV) : KE := cCode Try.prog (cd Try.f35 [1, 1, 1]) (retK Try.prog Try.f35.results.toList K) (fun _ _ _ => False) (retK Try.prog Try.f35.results.toList K)
def math_bits_Len32_A2 (K : KV) : KE := cCode Try.prog (cd Try.f35 [1, 1, 0, 1]) (math_bits_Len32_P2 K) (fun _ _ _ => False) (retK Try.prog Try.f35.results.toList K)
theorem math_bits_Len32_k {K : KV} (xc0 : Code) {x0 : Value} {w : World}
    (h : bin Try.prog BinOp.geq 95 false true x0 (Value.int IntKind.u32 65536) (fun A1 w =>
    (cCode Try.prog xc0 (cCode Try.prog (cd Try.f35 [1, 1]) (retK Try.prog Try.f35.results.toList K) (fun _ _ _ => False) (retK Try.prog Try.f35.results.toList K)) (fun _ _ _ => False) (retK Try.prog Try.f35.results.toList K)) [x0, undef, (Value.int IntKind.i64 0), x0, A1, undef, undef, undef, undef, undef, undef, undef, undef, undef, undef, undef, undef, undef, undef] w) w) :
    cCode Try.prog (rep [1, 0, 1] xc0 (cd Try.f35 [])) (retK Try.prog Try.f35.results.toList K) (fun _ _ _ => False) (retK Try.prog Try.f35.results.toList K) [x0, undef, undef, undef, undef, undef, undef, undef, undef, undef, undef, undef, undef, undef, undef, undef, undef, undef, undef] w := Eq.mp (by kernel_rfl) h

theorem math_bits_Len32_in {K : KV} {x0 : Value} {w : World}
    (h : bin Try.prog BinOp.geq 95 false true x0 (Value.int IntKind.u32 65536) (fun A1 w =>
    (math_bits_Len32_A1 K) [x0, undef, (Value.int IntKind.i64 0), x0, A1, undef, undef, undef, undef, undef, undef, undef, undef, undef, undef, undef, undef, undef, undef] w) w) :
    Gives Try.prog 35 #[x0] w K := enter' Try.func35 (by kernel_rfl) (Eq.mp (congrArg (fun c => cCode Try.prog c (retK Try.prog Try.f35.results.toList K) (fun _ _ _ => False) (retK Try.prog Try.f35.results.toList K) [x0, undef, undef, undef, undef, undef, undef, undef, undef, undef, undef, undef, undef, undef, undef, undef, undef, undef, undef] w) (by kernel_rfl : (rep [1, 0, 1] (cd Try.f35 [1, 0, 1]) (cd Try.f35 [])) = (cd Try.f35 []))) (math_bits_Len32_k (cd Try.f35 [1, 0, 1]) h))
theorem math_bits_Len32_go : isGo Try.prog 35 := ⟨_, Try.func35, by kernel_rfl, by kernel_rfl⟩

theorem math_bits_Len32_A1_k {K : KV} (qc0 : KE) {x0 x1 n2 A0 A1 A2 A3 A4 A5 A6 A7 A8 A9 C0 C1 C2 C3 C4 C5 : Value} {w : World}
    (h : cond A1
      (bin Try.prog BinOp.shr 95 false true x0 (Value.int IntKind.u64 16) (fun A3 w =>
      qc0 [A3, x1, (Value.int IntKind.i64 16), A0, A1, x0, A3, A4, A5, A6, A7, A8, A9, C0, C1, C2, C3, C4, C5] w) w)
      (qc0 [x0, x1, n2, A0, A1, A2, A3, A4, A5, A6, A7, A8, A9, C0, C1, C2, C3, C4, C5] w)) :
    cCode Try.prog (cd Try.f35 [1, 0, 1]) qc0 (fun _ _ _ => False) (retK Try.prog Try.f35.results.toList K) [x0, x1, n2, A0, A1, A2, A3, A4, A5, A6, A7, A8, A9, C0, C1, C2, C3, C4, C5] w := Eq.mp (by kernel_rfl) h

theorem math_bits_Len32_A1_r {K : KV} {x0 x1 n2 A0 A1 A2 A3 A4 A5 A6 A7 A8 A9 C0 C1 C2 C3 C4 C5 : Value} {w : World}
    (h : cond A1
      (bin Try.prog BinOp.shr 95 false true x0 (Value.int IntKind.u64 16) (fun A3 w =>
      (math_bits_Len32_P1 K) [A3, x1, (Value.int IntKind.i64 16), A0, A1, x0, A3, A4, A5, A6, A7, A8, A9, C0, C1, C2, C3, C4, C5] w) w)
      ((math_bits_Len32_P1 K) [x0, x1, n2, A0, A1, A2, A3, A4, A5, A6, A7, A8, A9, C0, C1, C2, C3, C4, C5] w)) :
    math_bits_Len32_A1 K [x0, x1, n2, A0, A1, A2, A3, A4, A5, A6, A7, A8, A9, C0, C1, C2, C3, C4, C5] w := by
  delta math_bits_Len32_A1
  exact Eq.mp (congrArg (fun c => cCode Try.prog c (math_bits_Len32_P1 K) (fun _ _ _ => False) (retK Try.prog Try.f35.results.toList K) [x0, x1, n2, A0, A1, A2, A3, A4, A5, A6, A7, A8, A9, C0, C1, C2, C3, C4, C5] w) (by kernel_rfl : (cd Try.f35 [1, 0, 1]) = (cd Try.f35 [1, 0, 1]))) (math_bits_Len32_A1_k (math_bits_Len32_P1 K) h)

theorem math_bits_Len32_P1_k {K : KV} (xc0 : Code) {x0 x1 n2 A0 A1 A2 A3 A4 A5 A6 A7 A8 A9 C0 C1 C2 C3 C4 C5 : Value} {w : World}
    (h : bin Try.prog BinOp.geq 95 false true x0 (Value.int IntKind.u32 256) (fun A5 w =>
    (cCode Try.prog xc0 (cCode Try.prog (cd Try.f35 [1, 1, 1]) (retK Try.prog Try.f35.results.toList K) (fun _ _ _ => False) (retK Try.prog Try.f35.results.toList K)) (fun _ _ _ => False) (retK Try.prog Try.f35.results.toList K)) [x0, x1, n2, A0, A1, A2, A3, x0, A5, A6, A7, A8, A9, C0, C1, C2, C3, C4, C5] w) w) :
    cCode Try.prog (rep [0, 1] xc0 (cd Try.f35 [1, 1])) (retK Try.prog Try.f35.results.toList K) (fun _ _ _ => False) (retK Try.prog Try.f35.results.toList K) [x0, x1, n2, A0, A1, A2, A3, A4, A5, A6, A7, A8, A9, C0, C1, C2, C3, C4, C5] w := Eq.mp (by kernel_rfl) h

theorem math_bits_Len32_P1_r {K : KV} {x0 x1 n2 A0 A1 A2 A3 A4 A5 A6 A7 A8 A9 C0 C1 C2 C3 C4 C5 : Value} {w : World}
    (h : bin Try.prog BinOp.geq 95 false true x0 (Value.int IntKind.u32 256) (fun A5 w =>
    (math_bits_Len32_A2 K) [x0, x1, n2, A0, A1, A2, A3, x0, A5, A6, A7, A8, A9, C0, C1, C2, C3, C4, C5] w) w) :
    math_bits_Len32_P1 K [x0, x1, n2, A0, A1, A2, A3, A4, A5, A6, A7, A8, A9, C0, C1, C2, C3, C4, C5] w := by
  delta math_bits_Len32_P1
  exact Eq.mp (congrArg (fun c => cCode Try.prog c (retK Try.prog Try.f35.results.toList K) (fun _ _ _ => False) (retK Try.prog Try.f35.results.toList K) [x0, x1, n2, A0, A1, A2, A3, A4, A5, A6, A7, A8, A9, C0, C1, C2, C3, C4, C5] w) (by kernel_rfl : (rep [0, 1] (cd Try.f35 [1, 1, 0, 1]) (cd Try.f35 [1, 1])) = (cd Try.f35 [1, 1]))) (math_bits_Len32_P1_k (cd Try.f35 [1, 1, 0, 1]) h)

theorem math_bits_Len32_A2_k {K : KV} (qc0 : KE) {x0 x1 n2 A0 A1 A2 A3 A4 A5 A6 A7 A8 A9 C0 C1 C2 C3 C4 C5 : Value} {w : World}
    (h : cond A5
      (bin Try.prog BinOp.shr 95 false true x0 (Value.int IntKind.u64 8) (fun A7 w =>
      bin Try.prog BinOp.add 3 false true n2 (Value.int IntKind.i64 8) (fun A9 w =>
      qc0 [A7, x1, A9, A0, A1, A2, A3, A4, A5, x0, A7, n2, A9, C0, C1, C2, C3, C4, C5] w) w) w)
      (qc0 [x0, x1, n2, A0, A1, A2, A3, A4, A5, A6, A7, A8, A9, C0, C1, C2, C3, C4, C5] w)) :
    cCode Try.prog (cd Try.f35 [1, 1, 0, 1]) qc0 (fun _ _ _ => False) (retK Try.prog Try.f35.results.toList K) [x0, x1, n2, A0, A1, A2, A3, A4, A5, A6, A7, A8, A9, C0, C1, C2, C3, C4, C5] w := Eq.mp (by kernel_rfl) h

theorem math_bits_Len32_A2_r {K : KV} {x0 x1 n2 A0 A1 A2 A3 A4 A5 A6 A7 A8 A9 C0 C1 C2 C3 C4 C5 : Value} {w : World}
    (h : cond A5
      (bin Try.prog BinOp.shr 95 false true x0 (Value.int IntKind.u64 8) (fun A7 w =>
      bin Try.prog BinOp.add 3 false true n2 (Value.int IntKind.i64 8) (fun A9 w =>
      (math_bits_Len32_P2 K) [A7, x1, A9, A0, A1, A2, A3, A4, A5, x0, A7, n2, A9, C0, C1, C2, C3, C4, C5] w) w) w)
      ((math_bits_Len32_P2 K) [x0, x1, n2, A0, A1, A2, A3, A4, A5, A6, A7, A8, A9, C0, C1, C2, C3, C4, C5] w)) :
    math_bits_Len32_A2 K [x0, x1, n2, A0, A1, A2, A3, A4, A5, A6, A7, A8, A9, C0, C1, C2, C3, C4, C5] w := by
  delta math_bits_Len32_A2
  exact Eq.mp (congrArg (fun c => cCode Try.prog c (math_bits_Len32_P2 K) (fun _ _ _ => False) (retK Try.prog Try.f35.results.toList K) [x0, x1, n2, A0, A1, A2, A3, A4, A5, A6, A7, A8, A9, C0, C1, C2, C3, C4, C5] w) (by kernel_rfl : (cd Try.f35 [1, 1, 0, 1]) = (cd Try.f35 [1, 1, 0, 1]))) (math_bits_Len32_A2_k (math_bits_Len32_P2 K) h)

theorem math_bits_Len32_P2_k {K : KV} {x0 x1 n2 A0 A1 A2 A3 A4 A5 A6 A7 A8 A9 C0 C1 C2 C3 C4 C5 : Value} {w : World}
    (h : conv Try.prog 95 5 x0 (fun C2 w =>
    idx Try.prog 9 (Value.string (bstr [0, 1, 2, 2, 3, 3, 3, 3, 4, 4, 4, 4, 4, 4, 4, 4, 5, 5, 5, 5, 5, 5, 5, 5, 5, 5, 5, 5, 5, 5, 5, 5, 6, 6, 6, 6, 6, 6, 6, 6, 6, 6, 6, 6, 6, 6, 6, 6, 6, 6, 6, 6, 6, 6, 6, 6, 6, 6, 6, 6, 6, 6, 6, 6, 7, 7, 7, 7, 7, 7, 7, 7, 7, 7, 7, 7, 7, 7, 7, 7, 7, 7, 7, 7, 7, 7, 7, 7, 7, 7, 7, 7, 7, 7, 7, 7, 7, 7, 7, 7, 7, 7, 7, 7, 7, 7, 7, 7, 7, 7, 7, 7, 7, 7, 7, 7, 7, 7, 7, 7, 7, 7, 7, 7, 7, 7, 7, 7, 8, 8, 8, 8, 8, 8, 8, 8, 8, 8, 8, 8, 8, 8, 8, 8, 8, 8, 8, 8, 8, 8, 8, 8, 8, 8, 8, 8, 8, 8, 8, 8, 8, 8, 8, 8, 8, 8, 8, 8, 8, 8, 8, 8, 8, 8, 8, 8, 8, 8, 8, 8, 8, 8, 8, 8, 8, 8, 8, 8, 8, 8, 8, 8, 8, 8, 8, 8, 8, 8, 8, 8, 8, 8, 8, 8, 8, 8, 8, 8, 8, 8, 8, 8, 8, 8, 8, 8, 8, 8, 8, 8, 8, 8, 8, 8, 8, 8, 8, 8, 8, 8, 8, 8, 8, 8, 8, 8, 8, 8, 8, 8, 8, 8, 8, 8, 8, 8, 8, 8, 8, 8, 8, 8, 8, 8, 8, 8])) C2 (fun C3 w =>
    conv Try.prog 5 3 C3 (fun C4 w =>
    bin Try.prog BinOp.add 3 false false n2 C4 (fun C5 w =>
    K C5 w) w) w) w) w) :
    cCode Try.prog (cd Try.f35 [1, 1, 1]) (retK Try.prog Try.f35.results.toList K) (fun _ _ _ => False) (retK Try.prog Try.f35.results.toList K) [x0, x1, n2, A0, A1, A2, A3, A4, A5, A6, A7, A8, A9, C0, C1, C2, C3, C4, C5] w := Eq.mp (by kernel_rfl) h

theorem math_bits_Len32_P2_r {K : KV} {x0 x1 n2 A0 A1 A2 A3 A4 A5 A6 A7 A8 A9 C0 C1 C2 C3 C4 C5 : Value} {w : World}
    (h : conv Try.prog 95 5 x0 (fun C2 w =>
    idx Try.prog 9 (Value.string (bstr [0, 1, 2, 2, 3, 3, 3, 3, 4, 4, 4, 4, 4, 4, 4, 4, 5, 5, 5, 5, 5, 5, 5, 5, 5, 5, 5, 5, 5, 5, 5, 5, 6, 6, 6, 6, 6, 6, 6, 6, 6, 6, 6, 6, 6, 6, 6, 6, 6, 6, 6, 6, 6, 6, 6, 6, 6, 6, 6, 6, 6, 6, 6, 6, 7, 7, 7, 7, 7, 7, 7, 7, 7, 7, 7, 7, 7, 7, 7, 7, 7, 7, 7, 7, 7, 7, 7, 7, 7, 7, 7, 7, 7, 7, 7, 7, 7, 7, 7, 7, 7, 7, 7, 7, 7, 7, 7, 7, 7, 7, 7, 7, 7, 7, 7, 7, 7, 7, 7, 7, 7, 7, 7, 7, 7, 7, 7, 7, 8, 8, 8, 8, 8, 8, 8, 8, 8, 8, 8, 8, 8, 8, 8, 8, 8, 8, 8, 8, 8, 8, 8, 8, 8, 8, 8, 8, 8, 8, 8, 8, 8, 8, 8, 8, 8, 8, 8, 8, 8, 8, 8, 8, 8, 8, 8, 8, 8, 8, 8, 8, 8, 8, 8, 8, 8, 8, 8, 8, 8, 8, 8, 8, 8, 8, 8, 8, 8, 8, 8, 8, 8, 8, 8, 8, 8, 8, 8, 8, 8, 8, 8, 8, 8, 8, 8, 8, 8, 8, 8, 8, 8, 8, 8, 8, 8, 8, 8, 8, 8, 8, 8, 8, 8, 8, 8, 8, 8, 8, 8, 8, 8, 8, 8, 8, 8, 8, 8, 8, 8, 8, 8, 8, 8, 8, 8, 8])) C2 (fun C3 w =>
    conv Try.prog 5 3 C3 (fun C4 w =>
    bin Try.prog BinOp.add 3 false false n2 C4 (fun C5 w =>
    K C5 w) w) w) w) w) :
    math_bits_Len32_P2 K [x0, x1, n2, A0, A1, A2, A3, A4, A5, A6, A7, A8, A9, C0, C1, C2, C3, C4, C5] w := by
  delta math_bits_Len32_P2
  exact Eq.mp (congrArg (fun c => cCode Try.prog c (retK Try.prog Try.f35.results.toList K) (fun _ _ _ => False) (retK Try.prog Try.f35.results.toList K) [x0, x1, n2, A0, A1, A2, A3, A4, A5, A6, A7, A8, A9, C0, C1, C2, C3, C4, C5] w) (by kernel_rfl : (cd Try.f35 [1, 1, 1]) = (cd Try.f35 [1, 1, 1]))) (math_bits_Len32_P2_k h)
attribute [irreducible] math_bits_Len32_P1 math_bits_Len32_A1 math_bits_Len32_P2 math_bits_Len32_A2

def math_bits_Len64_P1 (K : KV) : KE := cCode Try.prog (cd Try.f36 [1, 1]) (retK Try.prog Try.f36.results.toList K) (fun _ _ _ => False) (retK Try.prog Try.f36.results.toList K)
def math_bits_Len64_A1 (K : KV) : KE := cCode Try.prog (cd Try.f36 [1, 0, 1]) (math_bits_Len64_P1 K) (fun _ _ _ => False) (retK Try.prog Try.f36.results.toList K)
def math_bits_Len64_P2 (K : KV) : KE := cCode Try.prog (cd Try.f36 [1, 1, 1]) (retK Try.prog Try.f36.results.toList K) (fun _ _ _ => False) (retK Try.prog Try.f36.results.toList K)
def math_bits_Len64_A2 (K : KV) : KE := cCode Try.prog (cd Try.f36 [1, 1, 0, 1]) (math_bits_Len64_P2 K) (fun _ _ _ => False) (retK Try.prog Try.f36.results.toList K)
def math_bits_Len64_P3 (K : KV) : KE := cCode Try.prog (cd Try.f36 [1, 1, 1, 1]) (retK Try.prog Try.f36.results.toList K) (fun _ _ _ => False) (retK Try.prog Try.f36.results.toList K)
def math_bits_Len64_A3 (K : KV) : KE := cCode Try.prog (cd Try.f36 [1, 1, 1, 0, 1]) (math_bits_Len64_P3 K) (fun _ _ _ => False) (retK Try.prog Try.f36.results.toList K)
theorem math_bits_Len64_k {K : KV} (xc0 : Code) {x0 : Value} {w : World}
    (h : bin Try.prog BinOp.geq 33 false true x0 (Value.int IntKind.u64 4294967296) (fun A1 w =>
    (cCode Try.prog xc0 (cCode Try.prog (cd Try.f36 [1, 1]) (retK Try.prog Try.f36.results.toList K) (fun _ _ _ => False) (retK Try.prog Try.f36.results.toList K)) (fun _ _ _ => False) (retK Try.prog Try.f36.results.toList K)) [x0, undef, (Value.int IntKind.i64 0), x0, A1, undef, undef, undef, undef, undef, undef, undef, undef, undef, undef, undef, undef, undef, undef, undef, undef, undef, undef, undef, undef] w) w) :
    cCode Try.prog (rep [1, 0, 1] xc0 (cd Try.f36 [])) (retK Try.prog Try.f36.results.toList K) (fun _ _ _ => False) (retK Try.prog Try.f36.results.toList K) [x0, undef, undef, undef, undef, undef, undef, undef, undef, undef, undef, undef, undef, undef, undef, undef, undef, undef, undef, undef, undef, undef, undef, undef, undef] w := Eq.mp (by kernel_rfl) h

theorem math_bits_Len64_in {K : KV} {x0 : Value} {w : World}
    (h : bin Try.prog BinOp.geq 33 false true x0 (Value.int IntKind.u64 4294967296) (fun A1 w =>
    (math_bits_Len64_A1 K) [x0, undef, (Value.int IntKind.i64 0), x0, A1, undef, undef, undef, undef, undef, undef, undef, undef, undef, undef, undef, undef, undef, undef, undef, undef, undef, undef, undef, undef] w) w) :
    Gives Try.prog 36 #[x0] w K := enter' Try.func36 (by kernel_rfl) (Eq.mp (congrArg (fun c => cCode Try.prog c (retK Try.prog Try.f36.results.toList K) (fun _ _ _ => False) (retK Try.prog Try.f36.results.toList K) [x0, undef, undef, undef, undef, undef, undef, undef, undef, undef, undef, undef, undef, undef, undef, undef, undef, undef, undef, undef, undef, undef, undef, undef, undef] w) (by kernel_rfl : (rep [1, 0, 1] (cd Try.f36 [1, 0, 1]) (cd Try.f36 [])) = (cd Try.f36 []))) (math_bits_Len64_k (cd Try.f36 [1, 0, 1]) h))
theorem math_bits_Len64_go : isGo Try.prog 36 := ⟨_, Try.func36, by kernel_rfl, by kernel_rfl⟩

theorem math_bits_Len64_A1_k {K : KV} (qc0 : KE) {x0 x1 n2 A0 A1 A2 A3 A4 A5 A6 A7 A8 A9 C0 C1 C2 C3 C4 C5 C6 C7 C8 C9 D0 D1 : Value} {w : World}
    (h : cond A1
      (bin Try.prog BinOp.shr 33 false true x0 (Value.int IntKind.u64 32) (fun A3 w =>
      qc0 [A3, x1, (Value.int IntKind.i64 32), A0, A1, x0, A3, A4, A5, A6, A7, A8, A9, C0, C1, C2, C3, C4, C5, C6, C7, C8, C9, D0, D1] w) w)
      (qc0 [x0, x1, n2, A0, A1, A2, A3, A4, A5, A6, A7, A8, A9, C0, C1, C2, C3, C4, C5, C6, C7, C8, C9, D0, D1] w)) :
    cCode Try.prog (cd Try.f36 [1, 0, 1]) qc0 (fun _ _ _ => False) (retK Try.prog Try.f36.results.toList K) [x0, x1, n2, A0, A1, A2, A3, A4, A5, A6, A7, A8, A9, C0, C1, C2, C3, C4, C5, C6, C7, C8, C9, D0, D1] w := Eq.mp (by kernel_rfl) h

theorem math_bits_Len64_A1_r {K : KV} {x0 x1 n2 A0 A1 A2 A3 A4 A5 A6 A7 A8 A9 C0 C1 C2 C3 C4 C5 C6 C7 C8 C9 D0 D1 : Value} {w : World}
    (h : cond A1
      (bin Try.prog BinOp.shr 33 false true x0 (Value.int IntKind.u64 32) (fun A3 w =>
      (math_bits_Len64_P1 K) [A3, x1, (Value.int IntKind.i64 32), A0, A1, x0, A3, A4, A5, A6, A7, A8, A9, C0, C1, C2, C3, C4, C5, C6, C7, C8, C9, D0, D1] w) w)
      ((math_bits_Len64_P1 K) [x0, x1, n2, A0, A1, A2, A3, A4, A5, A6, A7, A8, A9, C0, C1, C2, C3, C4, C5, C6, C7, C8, C9, D0, D1] w)) :
    math_bits_Len64_A1 K [x0, x1, n2, A0, A1, A2, A3, A4, A5, A6, A7, A8, A9, C0, C1, C2, C3, C4, C5, C6, C7, C8, C9, D0, D1] w := by
  delta math_bits_Len64_A1
  exact Eq.mp (congrArg (fun c => cCode Try.prog c (math_bits_Len64_P1 K) (fun _ _ _ => False) (retK Try.prog Try.f36.results.toList K) [x0, x1, n2, A0, A1, A2, A3, A4, A5, A6, A7, A8, A9, C0, C1, C2, C3, C4, C5, C6, C7, C8, C9, D0, D1] w) (by kernel_rfl : (cd Try.f36 [1, 0, 1]) = (cd Try.f36 [1, 0, 1]))) (math_bits_Len64_A1_k (math_bits_Len64_P1 K) h)

theorem math_bits_Len64_P1_k {K : KV} (xc0 : Code) {x0 x1 n2 A0 A1 A2 A3 A4 A5 A6 A7 A8 A9 C0 C1 C2 C3 C4 C5 C6 C7 C8 C9 D0 D1 : Value} {w : World}
    (h : bin Try.prog BinOp.geq 33 false true x0 (Value.int IntKind.u64 65536) (fun A5 w =>
    (cCode Try.prog xc0 (cCode Try.prog (cd Try.f36 [1, 1, 1]) (retK Try.prog Try.f36.results.toList K) (fun _ _ _ => False) (retK Try.prog Try.f36.results.toList K)) (fun _ _ _ => False) (retK Try.prog Try.f36.results.toList K)) [x0, x1, n2, A0, A1, A2, A3, x0, A5, A6, A7, A8, A9, C0, C1, C2, C3, C4, C5, C6, C7, C8, C9, D0, D1] w) w) :
    cCode Try.prog (rep [0, 1] xc0 (cd Try.f36 [1, 1])) (retK Try.prog Try.f36.results.toList K) (fun _ _ _ => False) (retK Try.prog Try.f36.results.toList K) [x0, x1, n2, A0, A1, A2, A3, A4, A5, A6, A7, A8, A9, C0, C1, C2, C3, C4, C5, C6, C7, C8, C9, D0, D1] w := Eq.mp (by kernel_rfl) h

theorem math_bits_Len64_P1_r {K : KV} {x0 x1 n2 A0 A1 A2 A3 A4 A5 A6 A7 A8 A9 C0 C1 C2 C3 C4 C5 C6 C7 C8 C9 D0 D1 : Value} {w : World}
    (h : bin Try.prog BinOp.geq 33 false true x0 (Value.int IntKind.u64 65536) (fun A5 w =>
    (math_bits_Len64_A2 K) [x0, x1, n2, A0, A1, A2, A3, x0, A5, A6, A7, A8, A9, C0, C1, C2, C3, C4, C5, C6, C7, C8, C9, D0, D1] w) w) :
    math_bits_Len64_P1 K [x0, x1, n2, A0, A1, A2, A3, A4, A5, A6, A7, A8, A9, C0, C1, C2, C3, C4, C5, C6, C7, C8, C9, D0, D1] w := by
  delta math_bits_Len64_P1
  exact Eq.mp (congrArg (fun c => cCode Try.prog c (retK Try.prog Try.f36.results.toList K) (fun _ _ _ => False) (retK Try.prog Try.f36.results.toList K) [x0, x1, n2, A0, A1, A2, A3, A4, A5, A6, A7, A8, A9, C0, C1, C2, C3, C4, C5, C6, C7, C8, C9, D0, D1] w) (by kernel_rfl : (rep [0, 1] (cd Try.f36 [1, 1, 0, 1]) (cd Try.f36 [1, 1])) = (cd Try.f36 [1, 1]))) (math_bits_Len64_P1_k (cd Try.f36 [1, 1, 0, 1]) h)

theorem math_bits_Len64_A2_k {K : KV} (qc0 : KE) {x0 x1 n2 A0 A1 A2 A3 A4 A5 A6 A7 A8 A9 C0 C1 C2 C3 C4 C5 C6 C7 C8 C9 D0 D1 : Value} {w : World}
    (h : cond A5
      (bin Try.prog BinOp.shr 33 false true x0 (Value.int IntKind.u64 16) (fun A7 w =>
      bin Try.prog BinOp.add 3 false true n2 (Value.int IntKind.i64 16) (fun A9 w =>
      qc0 [A7, x1, A9, A0, A1, A2, A3, A4, A5, x0, A7, n2, A9, C0, C1, C2, C3, C4, C5, C6, C7, C8, C9, D0, D1] w) w) w)
      (qc0 [x0, x1, n2, A0, A1, A2, A3, A4, A5, A6, A7, A8, A9, C0, C1, C2, C3, C4, C5, C6, C7, C8, C9, D0, D1] w)) :
    cCode Try.prog (cd Try.f36 [1, 1, 0, 1]) qc0 (fun _ _ _ => False) (retK Try.prog Try.f36.results.toList K) [x0, x1, n2, A0, A1, A2, A3, A4, A5, A6, A7, A8, A9, C0, C1, C2, C3, C4, C5, C6, C7, C8, C9, D0, D1] w := Eq.mp (by kernel_rfl) h

theorem math_bits_Len64_A2_r {K : KV} {x0 x1 n2 A0 A1 A2 A3 A4 A5 A6 A7 A8 A9 C0 C1 C2 C3 C4 C5 C6 C7 C8 C9 D0 D1 : Value} {w : World}
    (h : cond A5
      (bin Try.prog BinOp.shr 33 false true x0 (Value.int IntKind.u64 16) (fun A7 w =>
      bin Try.prog BinOp.add 3 false true n2 (Value.int IntKind.i64 16) (fun A9 w =>
      (math_bits_Len64_P2 K) [A7, x1, A9, A0, A1, A2, A3, A4, A5, x0, A7, n2, A9, C0, C1, C2, C3, C4, C5, C6, C7, C8, C9, D0, D1] w) w) w)
      ((math_bits_Len64_P2 K) [x0, x1, n2, A0, A1, A2, A3, A4, A5, A6, A7, A8, A9, C0, C1, C2, C3, C4, C5, C6, C7, C8, C9, D0, D1] w)) :
    math_bits_Len64_A2 K [x0, x1, n2, A0, A1, A2, A3, A4, A5, A6, A7, A8, A9, C0, C1, C2, C3, C4, C5, C6, C7, C8, C9, D0, D1] w := by
  delta math_bits_Len64_A2
  exact Eq.mp (congrArg (fun c => cCode Try.prog c (math_bits_Len64_P2 K) (fun _ _ _ => False) (retK Try.prog Try.f36.results.toList K) [x0, x1, n2, A0, A1, A2, A3, A4, A5, A6, A7, A8, A9, C0, C1, C2, C3, C4, C5, C6, C7, C8, C9, D0, D1] w) (by kernel_rfl : (cd Try.f36 [1, 1, 0, 1]) = (cd Try.f36 [1, 1, 0, 1]))) (math_bits_Len64_A2_k (math_bits_Len64_P2 K) h)

theorem math_bits_Len64_P2_k {K : KV} (xc0 : Code) {x0 x1 n2 A0 A1 A2 A3 A4 A5 A6 A7 A8 A9 C0 C1 C2 C3 C4 C5 C6 C7 C8 C9 D0 D1 : Value} {w : World}
    (h : bin Try.prog BinOp.geq 33 false true x0 (Value.int IntKind.u64 256) (fun C1 w =>
    (cCode Try.prog xc0 (cCode Try.prog (cd Try.f36 [1, 1, 1, 1]) (retK Try.prog Try.f36.results.toList K) (fun _ _ _ => False) (retK Try.prog Try.f36.results.toList K)) (fun _ _ _ => False) (retK Try.prog Try.f36.results.toList K)) [x0, x1, n2, A0, A1, A2, A3, A4, A5, A6, A7, A8, A9, x0, C1, C2, C3, C4, C5, C6, C7, C8, C9, D0, D1] w) w) :
    cCode Try.prog (rep [0, 1] xc0 (cd Try.f36 [1, 1, 1])) (retK Try.prog Try.f36.results.toList K) (fun _ _ _ => False) (retK Try.prog Try.f36.results.toList K) [x0, x1, n2, A0, A1, A2, A3, A4, A5, A6, A7, A8, A9, C0, C1, C2, C3, C4, C5, C6, C7, C8, C9, D0, D1] w := Eq.mp (by kernel_rfl) h

theorem math_bits_Len64_P2_r {K : KV} {x0 x1 n2 A0 A1 A2 A3 A4 A5 A6 A7 A8 A9 C0 C1 C2 C3 C4 C5 C6 C7 C8 C9 D0 D1 : Value} {w : World}
    (h : bin Try.prog BinOp.geq 33 false true x0 (Value.int IntKind.u64 256) (fun C1 w =>
    (math_bits_Len64_A3 K) [x0, x1, n2, A0, A1, A2, A3, A4, A5, A6, A7, A8, A9, x0, C1, C2, C3, C4, C5, C6, C7, C8, C9, D0, D1] w) w) :
    math_bits_Len64_P2 K [x0, x1, n2, A0, A1, A2, A3, A4, A5, A6, A7, A8, A9, C0, C1, C2, C3, C4, C5, C6, C7, C8, C9, D0, D1] w := by
  delta math_bits_Len64_P2
  exact Eq.mp (congrArg (fun c => cCode Try.prog c (retK Try.prog Try.f36.results.toList K) (fun _ _ _ => False) (retK Try.prog Try.f36.results.toList K) [x0, x1, n2, A0, A1, A2, A3, A4, A5, A6, A7, A8, A9, C0, C1, C2, C3, C4, C5, C6, C7, C8, C9, D0, D1] w) (by kernel_rfl : (rep [0, 1] (cd Try.f36 [1, 1, 1, 0, 1]) (cd Try.f36 [1, 1, 1])) = (cd Try.f36 [1, 1, 1]))) (math_bits_Len64_P2_k (cd Try.f36 [1, 1, 1, 0, 1]) h)

theorem math_bits_Len64_A3_k {K : KV} (qc0 : KE) {x0 x1 n2 A0 A1 A2 A3 A4 A5 A6 A7 A8 A9 C0 C1 C2 C3 C4 C5 C6 C7 C8 C9 D0 D1 : Value} {w : World}
    (h : cond C1
      (bin Try.prog BinOp.shr 33 false true x0 (Value.int IntKind.u64 8) (fun C3 w =>
      bin Try.prog BinOp.add 3 false true n2 (Value.int IntKind.i64 8) (fun C5 w =>
      qc0 [C3, x1, C5, A0, A1, A2, A3, A4, A5, A6, A7, A8, A9, C0, C1, x0, C3, n2, C5, C6, C7, C8, C9, D0, D1] w) w) w)
      (qc0 [x0, x1, n2, A0, A1, A2, A3, A4, A5, A6, A7, A8, A9, C0, C1, C2, C3, C4, C5, C6, C7, C8, C9, D0, D1] w)) :
    cCode Try.prog (cd Try.f36 [1, 1, 1, 0, 1]) qc0 (fun _ _ _ => False) (retK Try.prog Try.f36.results.toList K) [x0, x1, n2, A0, A1, A2, A3, A4, A5, A6, A7, A8, A9, C0, C1, C2, C3, C4, C5, C6, C7, C8, C9, D0, D1] w := Eq.mp (by kernel_rfl) h

theorem math_bits_Len64_A3_r {K : KV} {x0 x1 n2 A0 A1 A2 A3 A4 A5 A6 A7 A8 A9 C0 C1 C2 C3 C4 C5 C6 C7 C8 C9 D0 D1 : Value} {w : World}
    (h : cond C1
      (bin Try.prog BinOp.shr 33 false true x0 (Value.int IntKind.u64 8) (fun C3 w =>
      bin Try.prog BinOp.add 3 false true n2 (Value.int IntKind.i64 8) (fun C5 w =>
      (math_bits_Len64_P3 K) [C3, x1, C5, A0, A1, A2, A3, A4, A5, A6, A7, A8, A9, C0, C1, x0, C3, n2, C5, C6, C7, C8, C9, D0, D1] w) w) w)
      ((math_bits_Len64_P3 K) [x0, x1, n2, A0, A1, A2, A3, A4, A5, A6, A7, A8, A9, C0, C1, C2, C3, C4, C5, C6, C7, C8, C9, D0, D1] w)) :
    math_bits_Len64_A3 K [x0, x1, n2, A0, A1, A2, A3, A4, A5, A6, A7, A8, A9, C0, C1, C2, C3, C4, C5, C6, C7, C8, C9, D0, D1] w := by
  delta math_bits_Len64_A3
  exact Eq.mp (congrArg (fun c => cCode Try.prog c (math_bits_Len64_P3 K) (fun _ _ _ => False) (retK Try.prog Try.f36.results.toList K) [x0, x1, n2, A0, A1, A2, A3, A4, A5, A6, A7, A8, A9, C0, C1, C2, C3, C4, C5, C6, C7, C8, C9, D0, D1] w) (by kernel_rfl : (cd Try.f36 [1, 1, 1, 0, 1]) = (cd Try.f36 [1, 1, 1, 0, 1]))) (math_bits_Len64_A3_k (math_bits_Len64_P3 K) h)

theorem math_bits_Len64_P3_k {K : KV} {x0 x1 n2 A0 A1 A2 A3 A4 A5 A6 A7 A8 A9 C0 C1 C2 C3 C4 C5 C6 C7 C8 C9 D0 D1 : Value} {w : World}
    (h : conv Try.prog 33 5 x0 (fun C8 w =>
    idx Try.prog 9 (Value.string (bstr [0, 1, 2, 2, 3, 3, 3, 3, 4, 4, 4, 4, 4, 4, 4, 4, 5, 5, 5, 5, 5, 5, 5, 5, 5, 5, 5, 5, 5, 5, 5, 5, 6, 6, 6, 6, 6, 6, 6, 6, 6, 6, 6, 6, 6, 6, 6, 6, 6, 6, 6, 6, 6, 6, 6, 6, 6, 6, 6, 6, 6, 6, 6, 6, 7, 7, 7, 7, 7, 7, 7, 7, 7, 7, 7, 7, 7, 7, 7, 7, 7, 7, 7, 7, 7, 7, 7, 7, 7, 7, 7, 7, 7, 7, 7, 7, 7, 7, 7, 7, 7, 7, 7, 7, 7, 7, 7, 7, 7, 7, 7, 7, 7, 7, 7, 7, 7, 7, 7, 7, 7, 7, 7, 7, 7, 7, 7, 7, 8, 8, 8, 8, 8, 8, 8, 8, 8, 8, 8, 8, 8, 8, 8, 8, 8, 8, 8, 8, 8, 8, 8, 8, 8, 8, 8, 8, 8, 8, 8, 8, 8, 8, 8, 8, 8, 8, 8, 8, 8, 8, 8, 8, 8, 8, 8, 8, 8, 8, 8, 8, 8, 8, 8, 8, 8, 8, 8, 8, 8, 8, 8, 8, 8, 8, 8, 8, 8, 8, 8, 8, 8, 8, 8, 8, 8, 8, 8, 8, 8, 8, 8, 8, 8, 8, 8, 8, 8, 8, 8, 8, 8, 8, 8, 8, 8, 8, 8, 8, 8, 8, 8, 8, 8, 8, 8, 8, 8, 8, 8, 8, 8, 8, 8, 8, 8, 8, 8, 8, 8, 8, 8, 8, 8, 8, 8, 8])) C8 (fun C9 w =>
    conv Try.prog 5 3 C9 (fun D0 w =>
    bin Try.prog BinOp.add 3 false false n2 D0 (fun D1 w =>
    K D1 w) w) w) w) w) :
    cCode Try.prog (cd Try.f36 [1, 1, 1, 1]) (retK Try.prog Try.f36.results.toList K) (fun _ _ _ => False) (retK Try.prog Try.f36.results.toList K) [x0, x1, n2, A0, A1, A2, A3, A4, A5, A6, A7, A8, A9, C0, C1, C2, C3, C4, C5, C6, C7, C8, C9, D0, D1] w := Eq.mp (by kernel_rfl) h

theorem math_bits_Len64_P3_r {K : KV} {x0 x1 n2 A0 A1 A2 A3 A4 A5 A6 A7 A8 A9 C0 C1 C2 C3 C4 C5 C6 C7 C8 C9 D0 D1 : Value} {w : World}
    (h : conv Try.prog 33 5 x0 (fun C8 w =>
    idx Try.prog 9 (Value.string (bstr [0, 1, 2, 2, 3, 3, 3, 3, 4, 4, 4, 4, 4, 4, 4, 4, 5, 5, 5, 5, 5, 5, 5, 5, 5, 5, 5, 5, 5, 5, 5, 5, 6, 6, 6, 6, 6, 6, 6, 6, 6, 6, 6, 6, 6, 6, 6, 6, 6, 6, 6, 6, 6, 6, 6, 6, 6, 6, 6, 6, 6, 6, 6, 6, 7, 7, 7, 7, 7, 7, 7, 7, 7, 7, 7, 7, 7, 7, 7, 7, 7, 7, 7, 7, 7, 7, 7, 7, 7, 7, 7, 7, 7, 7, 7, 7, 7, 7, 7, 7, 7, 7, 7, 7, 7, 7, 7, 7, 7, 7, 7, 7, 7, 7, 7, 7, 7, 7, 7, 7, 7, 7, 7, 7, 7, 7, 7, 7, 8, 8, 8, 8, 8, 8, 8, 8, 8, 8, 8, 8, 8, 8, 8, 8, 8, 8, 8, 8, 8, 8, 8, 8, 8, 8, 8, 8, 8, 8, 8, 8, 8, 8, 8, 8, 8, 8, 8, 8, 8, 8, 8, 8, 8, 8, 8, 8, 8, 8, 8, 8, 8, 8, 8, 8, 8, 8, 8, 8, 8, 8, 8, 8, 8, 8, 8, 8, 8, 8, 8, 8, 8, 8, 8, 8, 8, 8, 8, 8, 8, 8, 8, 8, 8, 8, 8, 8, 8, 8, 8, 8, 8, 8, 8, 8, 8, 8, 8, 8, 8, 8, 8, 8, 8, 8, 8, 8, 8, 8, 8, 8, 8, 8, 8, 8, 8, 8, 8, 8, 8, 8, 8, 8, 8, 8, 8, 8])) C8 (fun C9 w =>
    conv Try.prog 5 3 C9 (fun D0 w =>
    bin Try.prog BinOp.add 3 false false n2 D0 (fun D1 w =>
    K D1 w) w) w) w) w) :
    math_bits_Len64_P3 K [x0, x1, n2, A0, A1, A2, A3, A4, A5, A6, A7, A8, A9, C0, C1, C2, C3, C4, C5, C6, C7, C8, C9, D0, D1] w := by
  delta math_bits_Len64_P3
  exact Eq.mp (congrArg (fun c => cCode Try.prog c (retK Try.prog Try.f36.results.toList K) (fun _ _ _ => False) (retK Try.prog Try.f36.results.toList K) [x0, x1, n2, A0, A1, A2, A3, A4, A5, A6, A7, A8, A9, C0, C1, C2, C3, C4, C5, C6, C7, C8, C9, D0, D1] w) (by kernel_rfl : (cd Try.f36 [1, 1, 1, 1]) = (cd Try.f36 [1, 1, 1, 1]))) (math_bits_Len64_P3_k h)
attribute [irreducible] math_bits_Len64_P1 math_bits_Len64_A1 math_bits_Len64_P2 math_bits_Len64_A2 math_bits_Len64_P3 math_bits_Len64_A3

end Go.Proofs.Ytcieejlkdfdpiaa

/- The engine at this program: the table of its types, and that it is the program's. Printed by wip/gen_tb.py. -/
import Derived.Test.YtpfemjpgbpnpkaaGreatDoorCEng
import Derived.Test.YtpfemjpgbpnpkaaGreatDoorCTab
import Derived.Test.YtpfemjpgbpnpkaaGreatDoorCSeg
namespace Go.Proofs.YtpfemjpgbpnpkaaGreatDoor.eng
open Go.RowKit mem seg
def TB0 : List (Nat × Ty) :=
  [(23, ⟨3, 40,true,[.d (.v (.bool false)),.d (.v (.string ⟨#[]⟩)),.d (.v (.string ⟨#[]⟩))],[(0, 1),(1, 1),(2, 1)],none,false,[4, 9, 9],none⟩),
   (25, ⟨6, 80,true,[.d (.v (.bool false)),.d (.v (.string ⟨#[]⟩)),.d (.v (.string ⟨#[]⟩)),.d (.v (.bool false)),.d (.v (.string ⟨#[]⟩)),.d (.v (.string ⟨#[]⟩))],[(0, 3),(3, 3)],none,false,[23, 23],none⟩),
   (27, ⟨4, 48,true,[.d (.v (.bool false)),.d (.v (.bool false)),.d (.v (.string ⟨#[]⟩)),.d (.v (.string ⟨#[]⟩))],[(0, 1),(1, 3)],none,false,[4, 23],none⟩),
   (29, ⟨10, 128,true,[.d (.v (.bool false)),.d (.v (.string ⟨#[]⟩)),.d (.v (.string ⟨#[]⟩)),.d (.v (.bool false)),.d (.v (.string ⟨#[]⟩)),.d (.v (.string ⟨#[]⟩)),.d (.v (.bool false)),.d (.v (.bool false)),.d (.v (.string ⟨#[]⟩)),.d (.v (.string ⟨#[]⟩))],[(0, 6),(6, 4)],none,false,[25, 27],none⟩),
   (32, ⟨12, 168,true,[.d (.v (.string ⟨#[]⟩)),.d (.v (.bool false)),.d (.v (.string ⟨#[]⟩)),.d (.v (.string ⟨#[]⟩)),.d (.v (.bool false)),.d (.v (.string ⟨#[]⟩)),.d (.v (.string ⟨#[]⟩)),.d (.v (.bool false)),.d (.v (.bool false)),.d (.v (.string ⟨#[]⟩)),.d (.v (.string ⟨#[]⟩)),.d (.v (.slice none 0 0))],[(0, 1),(1, 10),(11, 1)],none,false,[9, 29, 30],none⟩),
   (34, ⟨1, 8,false,[.d (.v (.int .i64 (0)))],[],none,false,[],none⟩),
   (55, ⟨16, 224,true,[.d (.v (.bool false)),.d (.v (.string ⟨#[]⟩)),.d (.v (.string ⟨#[]⟩)),.d (.v (.bool false)),.d (.v (.string ⟨#[]⟩)),.d (.v (.string ⟨#[]⟩)),.d (.v (.bool false)),.d (.v (.string ⟨#[]⟩)),.d (.v (.string ⟨#[]⟩)),.d (.v (.bool false)),.d (.v (.string ⟨#[]⟩)),.d (.v (.string ⟨#[]⟩)),.d (.v (.bool false)),.d (.v (.string ⟨#[]⟩)),.d (.v (.string ⟨#[]⟩)),.d (.v (.slice none 0 0))],[(0, 3),(3, 3),(6, 3),(9, 3),(12, 3),(15, 1)],none,false,[23, 23, 23, 23, 23, 53],none⟩),
   (61, ⟨6, 80,true,[.d (.v (.bool false)),.d (.v (.string ⟨#[]⟩)),.d (.v (.string ⟨#[]⟩)),.d (.v (.bool false)),.d (.v (.string ⟨#[]⟩)),.d (.v (.string ⟨#[]⟩))],[(0, 3),(3, 3)],none,false,[23, 23],none⟩),
   (115, ⟨1, 24,false,[.d (.v (.slice none 0 0))],[],some 123,false,[],none⟩),
   (123, ⟨2, 32,true,[.d (.v (.int .i64 (0))),.d (.v (.slice none 0 0))],[(0, 1),(1, 1)],none,false,[3, 33],none⟩),
   (129, ⟨12, 160,true,[.d (.v (.bool false)),.d (.v (.string ⟨#[]⟩)),.d (.v (.string ⟨#[]⟩)),.d (.v (.bool false)),.d (.v (.string ⟨#[]⟩)),.d (.v (.string ⟨#[]⟩)),.d (.v (.bool false)),.d (.v (.string ⟨#[]⟩)),.d (.v (.string ⟨#[]⟩)),.d (.v (.bool false)),.d (.v (.string ⟨#[]⟩)),.d (.v (.string ⟨#[]⟩))],[(0, 6),(6, 6)],none,false,[25, 25],none⟩),
   (30, ⟨1, 24,false,[.d (.v (.slice none 0 0))],[],some 55,false,[],none⟩)]
def TB1 : List (Nat × Ty) :=
  [(33, ⟨1, 24,false,[.d (.v (.slice none 0 0))],[],some 23,false,[],none⟩),
   (43, ⟨1, 24,false,[.d (.v (.slice none 0 0))],[],some 59,false,[],none⟩),
   (48, ⟨1, 24,false,[.d (.v (.slice none 0 0))],[],some 168,false,[],none⟩),
   (53, ⟨1, 24,false,[.d (.v (.slice none 0 0))],[],some 25,false,[],none⟩),
   (78, ⟨1, 24,false,[.d (.v (.slice none 0 0))],[],some 33,false,[],none⟩),
   (88, ⟨1, 24,false,[.d (.v (.slice none 0 0))],[],some 3,false,[],none⟩),
   (107, ⟨1, 24,false,[.d (.v (.slice none 0 0))],[],some 104,false,[],none⟩),
   (114, ⟨1, 24,false,[.d (.v (.slice none 0 0))],[],some 123,false,[],none⟩),
   (134, ⟨1, 24,false,[.d (.v (.slice none 0 0))],[],some 53,false,[],none⟩),
   (137, ⟨1, 24,false,[.d (.v (.slice none 0 0))],[],some 107,false,[],none⟩),
   (178, ⟨1, 24,false,[.d (.v (.slice none 0 0))],[],some 5,false,[],none⟩),
   (193, ⟨1, 24,false,[.d (.v (.slice none 0 0))],[],some 196,false,[],none⟩)]
def TB2 : List (Nat × Ty) :=
  [(201, ⟨1, 24,false,[.d (.v (.slice none 0 0))],[],some 115,false,[],none⟩),
   (203, ⟨1, 24,false,[.d (.v (.slice none 0 0))],[],some 51,false,[],none⟩),
   (206, ⟨1, 24,false,[.d (.v (.slice none 0 0))],[],some 29,false,[],none⟩),
   (260, ⟨1, 24,false,[.d (.v (.slice none 0 0))],[],some 263,false,[],none⟩),
   (263, ⟨1, 24,false,[.d (.v (.slice none 0 0))],[],some 61,false,[],none⟩),
   (264, ⟨1, 24,false,[.d (.v (.slice none 0 0))],[],some 129,false,[],none⟩),
   (269, ⟨1, 24,false,[.d (.v (.slice none 0 0))],[],some 271,false,[],none⟩),
   (303, ⟨1, 24,false,[.d (.v (.slice none 0 0))],[],some 309,false,[],none⟩),
   (316, ⟨1, 24,false,[.d (.v (.slice none 0 0))],[],some 319,false,[],none⟩),
   (334, ⟨1, 24,false,[.d (.v (.slice none 0 0))],[],some 150,false,[],none⟩),
   (2, ⟨1, 8,false,[.d (.v (.int .i64 (0)))],[],none,false,[],none⟩),
   (3, ⟨1, 8,false,[.d (.v (.int .i64 (0)))],[],none,false,[],none⟩)]
def TB3 : List (Nat × Ty) :=
  [(4, ⟨1, 1,false,[.d (.v (.bool false))],[],none,false,[],none⟩),
   (5, ⟨1, 1,false,[.d (.v (.int .u8 (0)))],[],none,false,[],none⟩),
   (7, ⟨4, 24,true,[.d (.v (.int .i64 (0))),.d (.v (.int .i64 (0))),.d (.v (.bool false)),.d (.v (.int .u8 (0)))],[(0, 1),(1, 1),(2, 1),(3, 1)],none,false,[2, 3, 4, 6],none⟩),
   (9, ⟨1, 16,false,[.d (.v (.string ⟨#[]⟩))],[],none,true,[],none⟩),
   (12, ⟨1, 8,false,[.d (.v (.int .u64 (0)))],[],none,false,[],none⟩),
   (13, ⟨2, 24,true,[.d (.v (.string ⟨#[]⟩)),.d (.v (.int .u64 (0)))],[(0, 1),(1, 1)],none,false,[9, 12],none⟩),
   (21, ⟨1, 4,false,[.d (.v (.int .i32 (0)))],[],none,false,[],none⟩),
   (22, ⟨3, 40,true,[.d (.v (.bool false)),.d (.v (.string ⟨#[]⟩)),.d (.v (.string ⟨#[]⟩))],[(0, 1),(1, 1),(2, 1)],none,false,[4, 9, 9],none⟩),
   (24, ⟨6, 80,true,[.d (.v (.bool false)),.d (.v (.string ⟨#[]⟩)),.d (.v (.string ⟨#[]⟩)),.d (.v (.bool false)),.d (.v (.string ⟨#[]⟩)),.d (.v (.string ⟨#[]⟩))],[(0, 3),(3, 3)],none,false,[23, 23],none⟩),
   (26, ⟨4, 48,true,[.d (.v (.bool false)),.d (.v (.bool false)),.d (.v (.string ⟨#[]⟩)),.d (.v (.string ⟨#[]⟩))],[(0, 1),(1, 3)],none,false,[4, 23],none⟩),
   (28, ⟨10, 128,true,[.d (.v (.bool false)),.d (.v (.string ⟨#[]⟩)),.d (.v (.string ⟨#[]⟩)),.d (.v (.bool false)),.d (.v (.string ⟨#[]⟩)),.d (.v (.string ⟨#[]⟩)),.d (.v (.bool false)),.d (.v (.bool false)),.d (.v (.string ⟨#[]⟩)),.d (.v (.string ⟨#[]⟩))],[(0, 6),(6, 4)],none,false,[25, 27],none⟩),
   (31, ⟨12, 168,true,[.d (.v (.string ⟨#[]⟩)),.d (.v (.bool false)),.d (.v (.string ⟨#[]⟩)),.d (.v (.string ⟨#[]⟩)),.d (.v (.bool false)),.d (.v (.string ⟨#[]⟩)),.d (.v (.string ⟨#[]⟩)),.d (.v (.bool false)),.d (.v (.bool false)),.d (.v (.string ⟨#[]⟩)),.d (.v (.string ⟨#[]⟩)),.d (.v (.slice none 0 0))],[(0, 1),(1, 10),(11, 1)],none,false,[9, 29, 30],none⟩)]
def TB4 : List (Nat × Ty) :=
  [(49, ⟨1, 24,false,[.d (.v (.slice none 0 0))],[],some 168,false,[],none⟩),
   (50, ⟨3, 56,true,[.d (.v (.bool false)),.d (.v (.slice none 0 0)),.d (.v (.slice none 0 0))],[(0, 1),(1, 1),(2, 1)],none,false,[4, 49, 49],none⟩),
   (51, ⟨3, 56,true,[.d (.v (.bool false)),.d (.v (.slice none 0 0)),.d (.v (.slice none 0 0))],[(0, 1),(1, 1),(2, 1)],none,false,[4, 49, 49],none⟩),
   (54, ⟨16, 224,true,[.d (.v (.bool false)),.d (.v (.string ⟨#[]⟩)),.d (.v (.string ⟨#[]⟩)),.d (.v (.bool false)),.d (.v (.string ⟨#[]⟩)),.d (.v (.string ⟨#[]⟩)),.d (.v (.bool false)),.d (.v (.string ⟨#[]⟩)),.d (.v (.string ⟨#[]⟩)),.d (.v (.bool false)),.d (.v (.string ⟨#[]⟩)),.d (.v (.string ⟨#[]⟩)),.d (.v (.bool false)),.d (.v (.string ⟨#[]⟩)),.d (.v (.string ⟨#[]⟩)),.d (.v (.slice none 0 0))],[(0, 3),(3, 3),(6, 3),(9, 3),(12, 3),(15, 1)],none,false,[23, 23, 23, 23, 23, 53],none⟩),
   (59, ⟨1, 16,false,[.d (.v (.nilIface))],[],none,false,[],none⟩),
   (60, ⟨6, 80,true,[.d (.v (.bool false)),.d (.v (.string ⟨#[]⟩)),.d (.v (.string ⟨#[]⟩)),.d (.v (.bool false)),.d (.v (.string ⟨#[]⟩)),.d (.v (.string ⟨#[]⟩))],[(0, 3),(3, 3)],none,false,[23, 23],none⟩),
   (103, ⟨6, 112,true,[.d (.v (.bool false)),.d (.v (.slice none 0 0)),.d (.v (.slice none 0 0)),.d (.v (.bool false)),.d (.v (.slice none 0 0)),.d (.v (.slice none 0 0))],[(0, 3),(3, 3)],none,false,[51, 51],none⟩),
   (104, ⟨6, 112,true,[.d (.v (.bool false)),.d (.v (.slice none 0 0)),.d (.v (.slice none 0 0)),.d (.v (.bool false)),.d (.v (.slice none 0 0)),.d (.v (.slice none 0 0))],[(0, 3),(3, 3)],none,false,[51, 51],none⟩),
   (122, ⟨2, 32,true,[.d (.v (.int .i64 (0))),.d (.v (.slice none 0 0))],[(0, 1),(1, 1)],none,false,[3, 33],none⟩),
   (128, ⟨12, 160,true,[.d (.v (.bool false)),.d (.v (.string ⟨#[]⟩)),.d (.v (.string ⟨#[]⟩)),.d (.v (.bool false)),.d (.v (.string ⟨#[]⟩)),.d (.v (.string ⟨#[]⟩)),.d (.v (.bool false)),.d (.v (.string ⟨#[]⟩)),.d (.v (.string ⟨#[]⟩)),.d (.v (.bool false)),.d (.v (.string ⟨#[]⟩)),.d (.v (.string ⟨#[]⟩))],[(0, 6),(6, 6)],none,false,[25, 25],none⟩),
   (150, ⟨1, 8,false,[.d (.v (.int .u64 (0)))],[],none,false,[],none⟩),
   (155, ⟨1, 8,false,[.d (.v (.int .u64 (0)))],[],none,false,[],none⟩)]
def TB5 : List (Nat × Ty) :=
  [(160, ⟨6, 112,true,[.d (.v (.bool false)),.d (.v (.slice none 0 0)),.d (.v (.slice none 0 0)),.d (.v (.bool false)),.d (.v (.slice none 0 0)),.d (.v (.slice none 0 0))],[(0, 3),(3, 3)],none,false,[51, 51],none⟩),
   (161, ⟨6, 112,true,[.d (.v (.bool false)),.d (.v (.slice none 0 0)),.d (.v (.slice none 0 0)),.d (.v (.bool false)),.d (.v (.slice none 0 0)),.d (.v (.slice none 0 0))],[(0, 3),(3, 3)],none,false,[51, 51],none⟩),
   (164, ⟨16, 224,true,[.d (.v (.bool false)),.d (.v (.string ⟨#[]⟩)),.d (.v (.string ⟨#[]⟩)),.d (.v (.bool false)),.d (.v (.string ⟨#[]⟩)),.d (.v (.string ⟨#[]⟩)),.d (.v (.bool false)),.d (.v (.string ⟨#[]⟩)),.d (.v (.string ⟨#[]⟩)),.d (.v (.bool false)),.d (.v (.string ⟨#[]⟩)),.d (.v (.string ⟨#[]⟩)),.d (.v (.bool false)),.d (.v (.string ⟨#[]⟩)),.d (.v (.string ⟨#[]⟩)),.d (.v (.slice none 0 0))],[(0, 16)],none,false,[55],none⟩),
   (165, ⟨16, 224,true,[.d (.v (.bool false)),.d (.v (.string ⟨#[]⟩)),.d (.v (.string ⟨#[]⟩)),.d (.v (.bool false)),.d (.v (.string ⟨#[]⟩)),.d (.v (.string ⟨#[]⟩)),.d (.v (.bool false)),.d (.v (.string ⟨#[]⟩)),.d (.v (.string ⟨#[]⟩)),.d (.v (.bool false)),.d (.v (.string ⟨#[]⟩)),.d (.v (.string ⟨#[]⟩)),.d (.v (.bool false)),.d (.v (.string ⟨#[]⟩)),.d (.v (.string ⟨#[]⟩)),.d (.v (.slice none 0 0))],[(0, 16)],none,false,[55],none⟩),
   (168, ⟨1, 4,false,[.d (.v (.int .u32 (0)))],[],none,false,[],none⟩),
   (195, ⟨12, 224,true,[.d (.v (.bool false)),.d (.v (.slice none 0 0)),.d (.v (.slice none 0 0)),.d (.v (.bool false)),.d (.v (.slice none 0 0)),.d (.v (.slice none 0 0)),.d (.v (.bool false)),.d (.v (.slice none 0 0)),.d (.v (.slice none 0 0)),.d (.v (.bool false)),.d (.v (.slice none 0 0)),.d (.v (.slice none 0 0))],[(0, 3),(3, 3),(6, 3),(9, 3)],none,false,[51, 51, 51, 51],none⟩),
   (196, ⟨12, 224,true,[.d (.v (.bool false)),.d (.v (.slice none 0 0)),.d (.v (.slice none 0 0)),.d (.v (.bool false)),.d (.v (.slice none 0 0)),.d (.v (.slice none 0 0)),.d (.v (.bool false)),.d (.v (.slice none 0 0)),.d (.v (.slice none 0 0)),.d (.v (.bool false)),.d (.v (.slice none 0 0)),.d (.v (.slice none 0 0))],[(0, 3),(3, 3),(6, 3),(9, 3)],none,false,[51, 51, 51, 51],none⟩),
   (226, ⟨3, 40,true,[.d (.v (.bool false)),.d (.v (.string ⟨#[]⟩)),.d (.v (.string ⟨#[]⟩))],[(0, 1),(1, 1),(2, 1)],none,false,[4, 9, 9],none⟩),
   (227, ⟨3, 40,true,[.d (.v (.bool false)),.d (.v (.string ⟨#[]⟩)),.d (.v (.string ⟨#[]⟩))],[(0, 1),(1, 1),(2, 1)],none,false,[4, 9, 9],none⟩),
   (271, ⟨12, 224,true,[.d (.v (.bool false)),.d (.v (.slice none 0 0)),.d (.v (.slice none 0 0)),.d (.v (.bool false)),.d (.v (.slice none 0 0)),.d (.v (.slice none 0 0)),.d (.v (.bool false)),.d (.v (.slice none 0 0)),.d (.v (.slice none 0 0)),.d (.v (.bool false)),.d (.v (.slice none 0 0)),.d (.v (.slice none 0 0))],[],none,false,[],some (2, 161)⟩),
   (299, ⟨8, 8,true,[.d (.v (.int .u8 (0))),.d (.v (.int .u8 (0))),.d (.v (.int .u8 (0))),.d (.v (.int .u8 (0))),.d (.v (.int .u8 (0))),.d (.v (.int .u8 (0))),.d (.v (.int .u8 (0))),.d (.v (.int .u8 (0)))],[],none,false,[],some (8, 5)⟩),
   (308, ⟨24, 320,true,[.d (.v (.bool false)),.d (.v (.string ⟨#[]⟩)),.d (.v (.string ⟨#[]⟩)),.d (.v (.bool false)),.d (.v (.string ⟨#[]⟩)),.d (.v (.string ⟨#[]⟩)),.d (.v (.bool false)),.d (.v (.string ⟨#[]⟩)),.d (.v (.string ⟨#[]⟩)),.d (.v (.bool false)),.d (.v (.string ⟨#[]⟩)),.d (.v (.string ⟨#[]⟩)),.d (.v (.bool false)),.d (.v (.string ⟨#[]⟩)),.d (.v (.string ⟨#[]⟩)),.d (.v (.bool false)),.d (.v (.string ⟨#[]⟩)),.d (.v (.string ⟨#[]⟩)),.d (.v (.bool false)),.d (.v (.string ⟨#[]⟩)),.d (.v (.string ⟨#[]⟩)),.d (.v (.bool false)),.d (.v (.string ⟨#[]⟩)),.d (.v (.string ⟨#[]⟩))],[(0, 6),(6, 6),(12, 6),(18, 6)],none,false,[61, 61, 61, 61],none⟩)]
def TB6 : List (Nat × Ty) :=
  [(309, ⟨24, 320,true,[.d (.v (.bool false)),.d (.v (.string ⟨#[]⟩)),.d (.v (.string ⟨#[]⟩)),.d (.v (.bool false)),.d (.v (.string ⟨#[]⟩)),.d (.v (.string ⟨#[]⟩)),.d (.v (.bool false)),.d (.v (.string ⟨#[]⟩)),.d (.v (.string ⟨#[]⟩)),.d (.v (.bool false)),.d (.v (.string ⟨#[]⟩)),.d (.v (.string ⟨#[]⟩)),.d (.v (.bool false)),.d (.v (.string ⟨#[]⟩)),.d (.v (.string ⟨#[]⟩)),.d (.v (.bool false)),.d (.v (.string ⟨#[]⟩)),.d (.v (.string ⟨#[]⟩)),.d (.v (.bool false)),.d (.v (.string ⟨#[]⟩)),.d (.v (.string ⟨#[]⟩)),.d (.v (.bool false)),.d (.v (.string ⟨#[]⟩)),.d (.v (.string ⟨#[]⟩))],[(0, 6),(6, 6),(12, 6),(18, 6)],none,false,[61, 61, 61, 61],none⟩),
   (318, ⟨24, 448,true,[.d (.v (.bool false)),.d (.v (.slice none 0 0)),.d (.v (.slice none 0 0)),.d (.v (.bool false)),.d (.v (.slice none 0 0)),.d (.v (.slice none 0 0)),.d (.v (.bool false)),.d (.v (.slice none 0 0)),.d (.v (.slice none 0 0)),.d (.v (.bool false)),.d (.v (.slice none 0 0)),.d (.v (.slice none 0 0)),.d (.v (.bool false)),.d (.v (.slice none 0 0)),.d (.v (.slice none 0 0)),.d (.v (.bool false)),.d (.v (.slice none 0 0)),.d (.v (.slice none 0 0)),.d (.v (.bool false)),.d (.v (.slice none 0 0)),.d (.v (.slice none 0 0)),.d (.v (.bool false)),.d (.v (.slice none 0 0)),.d (.v (.slice none 0 0))],[(0, 6),(6, 6),(12, 6),(18, 6)],none,false,[161, 161, 161, 161],none⟩),
   (319, ⟨24, 448,true,[.d (.v (.bool false)),.d (.v (.slice none 0 0)),.d (.v (.slice none 0 0)),.d (.v (.bool false)),.d (.v (.slice none 0 0)),.d (.v (.slice none 0 0)),.d (.v (.bool false)),.d (.v (.slice none 0 0)),.d (.v (.slice none 0 0)),.d (.v (.bool false)),.d (.v (.slice none 0 0)),.d (.v (.slice none 0 0)),.d (.v (.bool false)),.d (.v (.slice none 0 0)),.d (.v (.slice none 0 0)),.d (.v (.bool false)),.d (.v (.slice none 0 0)),.d (.v (.slice none 0 0)),.d (.v (.bool false)),.d (.v (.slice none 0 0)),.d (.v (.slice none 0 0)),.d (.v (.bool false)),.d (.v (.slice none 0 0)),.d (.v (.slice none 0 0))],[(0, 6),(6, 6),(12, 6),(18, 6)],none,false,[161, 161, 161, 161],none⟩),
   (349, ⟨2, 2,true,[.d (.v (.int .u8 (0))),.d (.v (.int .u8 (0)))],[(0, 1),(1, 1)],none,false,[5, 5],none⟩),
   (350, ⟨2, 2,true,[.d (.v (.int .u8 (0))),.d (.v (.int .u8 (0)))],[(0, 1),(1, 1)],none,false,[5, 5],none⟩)]
def TBall (P : Program) : List (Nat × Ty) → Prop
  | [] => True
  | e :: r => tyOf P e.1 = some e.2 ∧ TBall P r
set_option maxRecDepth 100000 in
theorem Zno : TBall Tryz.prog TB0 :=
  ⟨by kernel_rfl, by kernel_rfl, by kernel_rfl, by kernel_rfl, by kernel_rfl, by kernel_rfl, by kernel_rfl, by kernel_rfl, by kernel_rfl, by kernel_rfl, by kernel_rfl, by kernel_rfl, trivial⟩
set_option maxRecDepth 100000 in
theorem Znn : TBall Tryz.prog TB1 :=
  ⟨by kernel_rfl, by kernel_rfl, by kernel_rfl, by kernel_rfl, by kernel_rfl, by kernel_rfl, by kernel_rfl, by kernel_rfl, by kernel_rfl, by kernel_rfl, by kernel_rfl, by kernel_rfl, trivial⟩
set_option maxRecDepth 100000 in
theorem Znm : TBall Tryz.prog TB2 :=
  ⟨by kernel_rfl, by kernel_rfl, by kernel_rfl, by kernel_rfl, by kernel_rfl, by kernel_rfl, by kernel_rfl, by kernel_rfl, by kernel_rfl, by kernel_rfl, by kernel_rfl, by kernel_rfl, trivial⟩
set_option maxRecDepth 100000 in
theorem Znl : TBall Tryz.prog TB3 :=
  ⟨by kernel_rfl, by kernel_rfl, by kernel_rfl, by kernel_rfl, by kernel_rfl, by kernel_rfl, by kernel_rfl, by kernel_rfl, by kernel_rfl, by kernel_rfl, by kernel_rfl, by kernel_rfl, trivial⟩
set_option maxRecDepth 100000 in
theorem Znk : TBall Tryz.prog TB4 :=
  ⟨by kernel_rfl, by kernel_rfl, by kernel_rfl, by kernel_rfl, by kernel_rfl, by kernel_rfl, by kernel_rfl, by kernel_rfl, by kernel_rfl, by kernel_rfl, by kernel_rfl, by kernel_rfl, trivial⟩
set_option maxRecDepth 100000 in
theorem Znj : TBall Tryz.prog TB5 :=
  ⟨by kernel_rfl, by kernel_rfl, by kernel_rfl, by kernel_rfl, by kernel_rfl, by kernel_rfl, by kernel_rfl, by kernel_rfl, by kernel_rfl, by kernel_rfl, by kernel_rfl, by kernel_rfl, trivial⟩
set_option maxRecDepth 100000 in
theorem Zni : TBall Tryz.prog TB6 :=
  ⟨by kernel_rfl, by kernel_rfl, by kernel_rfl, by kernel_rfl, by kernel_rfl, trivial⟩
def TB : List (Nat × Ty) := [(23, ⟨3, 40,true,[.d (.v (.bool false)),.d (.v (.string ⟨#[]⟩)),.d (.v (.string ⟨#[]⟩))],[(0, 1),(1, 1),(2, 1)],none,false,[4, 9, 9],none⟩),
   (25, ⟨6, 80,true,[.d (.v (.bool false)),.d (.v (.string ⟨#[]⟩)),.d (.v (.string ⟨#[]⟩)),.d (.v (.bool false)),.d (.v (.string ⟨#[]⟩)),.d (.v (.string ⟨#[]⟩))],[(0, 3),(3, 3)],none,false,[23, 23],none⟩),
   (27, ⟨4, 48,true,[.d (.v (.bool false)),.d (.v (.bool false)),.d (.v (.string ⟨#[]⟩)),.d (.v (.string ⟨#[]⟩))],[(0, 1),(1, 3)],none,false,[4, 23],none⟩),
   (29, ⟨10, 128,true,[.d (.v (.bool false)),.d (.v (.string ⟨#[]⟩)),.d (.v (.string ⟨#[]⟩)),.d (.v (.bool false)),.d (.v (.string ⟨#[]⟩)),.d (.v (.string ⟨#[]⟩)),.d (.v (.bool false)),.d (.v (.bool false)),.d (.v (.string ⟨#[]⟩)),.d (.v (.string ⟨#[]⟩))],[(0, 6),(6, 4)],none,false,[25, 27],none⟩),
   (32, ⟨12, 168,true,[.d (.v (.string ⟨#[]⟩)),.d (.v (.bool false)),.d (.v (.string ⟨#[]⟩)),.d (.v (.string ⟨#[]⟩)),.d (.v (.bool false)),.d (.v (.string ⟨#[]⟩)),.d (.v (.string ⟨#[]⟩)),.d (.v (.bool false)),.d (.v (.bool false)),.d (.v (.string ⟨#[]⟩)),.d (.v (.string ⟨#[]⟩)),.d (.v (.slice none 0 0))],[(0, 1),(1, 10),(11, 1)],none,false,[9, 29, 30],none⟩),
   (34, ⟨1, 8,false,[.d (.v (.int .i64 (0)))],[],none,false,[],none⟩),
   (55, ⟨16, 224,true,[.d (.v (.bool false)),.d (.v (.string ⟨#[]⟩)),.d (.v (.string ⟨#[]⟩)),.d (.v (.bool false)),.d (.v (.string ⟨#[]⟩)),.d (.v (.string ⟨#[]⟩)),.d (.v (.bool false)),.d (.v (.string ⟨#[]⟩)),.d (.v (.string ⟨#[]⟩)),.d (.v (.bool false)),.d (.v (.string ⟨#[]⟩)),.d (.v (.string ⟨#[]⟩)),.d (.v (.bool false)),.d (.v (.string ⟨#[]⟩)),.d (.v (.string ⟨#[]⟩)),.d (.v (.slice none 0 0))],[(0, 3),(3, 3),(6, 3),(9, 3),(12, 3),(15, 1)],none,false,[23, 23, 23, 23, 23, 53],none⟩),
   (61, ⟨6, 80,true,[.d (.v (.bool false)),.d (.v (.string ⟨#[]⟩)),.d (.v (.string ⟨#[]⟩)),.d (.v (.bool false)),.d (.v (.string ⟨#[]⟩)),.d (.v (.string ⟨#[]⟩))],[(0, 3),(3, 3)],none,false,[23, 23],none⟩),
   (115, ⟨1, 24,false,[.d (.v (.slice none 0 0))],[],some 123,false,[],none⟩),
   (123, ⟨2, 32,true,[.d (.v (.int .i64 (0))),.d (.v (.slice none 0 0))],[(0, 1),(1, 1)],none,false,[3, 33],none⟩),
   (129, ⟨12, 160,true,[.d (.v (.bool false)),.d (.v (.string ⟨#[]⟩)),.d (.v (.string ⟨#[]⟩)),.d (.v (.bool false)),.d (.v (.string ⟨#[]⟩)),.d (.v (.string ⟨#[]⟩)),.d (.v (.bool false)),.d (.v (.string ⟨#[]⟩)),.d (.v (.string ⟨#[]⟩)),.d (.v (.bool false)),.d (.v (.string ⟨#[]⟩)),.d (.v (.string ⟨#[]⟩))],[(0, 6),(6, 6)],none,false,[25, 25],none⟩),
   (30, ⟨1, 24,false,[.d (.v (.slice none 0 0))],[],some 55,false,[],none⟩),(33, ⟨1, 24,false,[.d (.v (.slice none 0 0))],[],some 23,false,[],none⟩),
   (43, ⟨1, 24,false,[.d (.v (.slice none 0 0))],[],some 59,false,[],none⟩),
   (48, ⟨1, 24,false,[.d (.v (.slice none 0 0))],[],some 168,false,[],none⟩),
   (53, ⟨1, 24,false,[.d (.v (.slice none 0 0))],[],some 25,false,[],none⟩),
   (78, ⟨1, 24,false,[.d (.v (.slice none 0 0))],[],some 33,false,[],none⟩),
   (88, ⟨1, 24,false,[.d (.v (.slice none 0 0))],[],some 3,false,[],none⟩),
   (107, ⟨1, 24,false,[.d (.v (.slice none 0 0))],[],some 104,false,[],none⟩),
   (114, ⟨1, 24,false,[.d (.v (.slice none 0 0))],[],some 123,false,[],none⟩),
   (134, ⟨1, 24,false,[.d (.v (.slice none 0 0))],[],some 53,false,[],none⟩),
   (137, ⟨1, 24,false,[.d (.v (.slice none 0 0))],[],some 107,false,[],none⟩),
   (178, ⟨1, 24,false,[.d (.v (.slice none 0 0))],[],some 5,false,[],none⟩),
   (193, ⟨1, 24,false,[.d (.v (.slice none 0 0))],[],some 196,false,[],none⟩),(201, ⟨1, 24,false,[.d (.v (.slice none 0 0))],[],some 115,false,[],none⟩),
   (203, ⟨1, 24,false,[.d (.v (.slice none 0 0))],[],some 51,false,[],none⟩),
   (206, ⟨1, 24,false,[.d (.v (.slice none 0 0))],[],some 29,false,[],none⟩),
   (260, ⟨1, 24,false,[.d (.v (.slice none 0 0))],[],some 263,false,[],none⟩),
   (263, ⟨1, 24,false,[.d (.v (.slice none 0 0))],[],some 61,false,[],none⟩),
   (264, ⟨1, 24,false,[.d (.v (.slice none 0 0))],[],some 129,false,[],none⟩),
   (269, ⟨1, 24,false,[.d (.v (.slice none 0 0))],[],some 271,false,[],none⟩),
   (303, ⟨1, 24,false,[.d (.v (.slice none 0 0))],[],some 309,false,[],none⟩),
   (316, ⟨1, 24,false,[.d (.v (.slice none 0 0))],[],some 319,false,[],none⟩),
   (334, ⟨1, 24,false,[.d (.v (.slice none 0 0))],[],some 150,false,[],none⟩),
   (2, ⟨1, 8,false,[.d (.v (.int .i64 (0)))],[],none,false,[],none⟩),
   (3, ⟨1, 8,false,[.d (.v (.int .i64 (0)))],[],none,false,[],none⟩),(4, ⟨1, 1,false,[.d (.v (.bool false))],[],none,false,[],none⟩),
   (5, ⟨1, 1,false,[.d (.v (.int .u8 (0)))],[],none,false,[],none⟩),
   (7, ⟨4, 24,true,[.d (.v (.int .i64 (0))),.d (.v (.int .i64 (0))),.d (.v (.bool false)),.d (.v (.int .u8 (0)))],[(0, 1),(1, 1),(2, 1),(3, 1)],none,false,[2, 3, 4, 6],none⟩),
   (9, ⟨1, 16,false,[.d (.v (.string ⟨#[]⟩))],[],none,true,[],none⟩),
   (12, ⟨1, 8,false,[.d (.v (.int .u64 (0)))],[],none,false,[],none⟩),
   (13, ⟨2, 24,true,[.d (.v (.string ⟨#[]⟩)),.d (.v (.int .u64 (0)))],[(0, 1),(1, 1)],none,false,[9, 12],none⟩),
   (21, ⟨1, 4,false,[.d (.v (.int .i32 (0)))],[],none,false,[],none⟩),
   (22, ⟨3, 40,true,[.d (.v (.bool false)),.d (.v (.string ⟨#[]⟩)),.d (.v (.string ⟨#[]⟩))],[(0, 1),(1, 1),(2, 1)],none,false,[4, 9, 9],none⟩),
   (24, ⟨6, 80,true,[.d (.v (.bool false)),.d (.v (.string ⟨#[]⟩)),.d (.v (.string ⟨#[]⟩)),.d (.v (.bool false)),.d (.v (.string ⟨#[]⟩)),.d (.v (.string ⟨#[]⟩))],[(0, 3),(3, 3)],none,false,[23, 23],none⟩),
   (26, ⟨4, 48,true,[.d (.v (.bool false)),.d (.v (.bool false)),.d (.v (.string ⟨#[]⟩)),.d (.v (.string ⟨#[]⟩))],[(0, 1),(1, 3)],none,false,[4, 23],none⟩),
   (28, ⟨10, 128,true,[.d (.v (.bool false)),.d (.v (.string ⟨#[]⟩)),.d (.v (.string ⟨#[]⟩)),.d (.v (.bool false)),.d (.v (.string ⟨#[]⟩)),.d (.v (.string ⟨#[]⟩)),.d (.v (.bool false)),.d (.v (.bool false)),.d (.v (.string ⟨#[]⟩)),.d (.v (.string ⟨#[]⟩))],[(0, 6),(6, 4)],none,false,[25, 27],none⟩),
   (31, ⟨12, 168,true,[.d (.v (.string ⟨#[]⟩)),.d (.v (.bool false)),.d (.v (.string ⟨#[]⟩)),.d (.v (.string ⟨#[]⟩)),.d (.v (.bool false)),.d (.v (.string ⟨#[]⟩)),.d (.v (.string ⟨#[]⟩)),.d (.v (.bool false)),.d (.v (.bool false)),.d (.v (.string ⟨#[]⟩)),.d (.v (.string ⟨#[]⟩)),.d (.v (.slice none 0 0))],[(0, 1),(1, 10),(11, 1)],none,false,[9, 29, 30],none⟩),(49, ⟨1, 24,false,[.d (.v (.slice none 0 0))],[],some 168,false,[],none⟩),
   (50, ⟨3, 56,true,[.d (.v (.bool false)),.d (.v (.slice none 0 0)),.d (.v (.slice none 0 0))],[(0, 1),(1, 1),(2, 1)],none,false,[4, 49, 49],none⟩),
   (51, ⟨3, 56,true,[.d (.v (.bool false)),.d (.v (.slice none 0 0)),.d (.v (.slice none 0 0))],[(0, 1),(1, 1),(2, 1)],none,false,[4, 49, 49],none⟩),
   (54, ⟨16, 224,true,[.d (.v (.bool false)),.d (.v (.string ⟨#[]⟩)),.d (.v (.string ⟨#[]⟩)),.d (.v (.bool false)),.d (.v (.string ⟨#[]⟩)),.d (.v (.string ⟨#[]⟩)),.d (.v (.bool false)),.d (.v (.string ⟨#[]⟩)),.d (.v (.string ⟨#[]⟩)),.d (.v (.bool false)),.d (.v (.string ⟨#[]⟩)),.d (.v (.string ⟨#[]⟩)),.d (.v (.bool false)),.d (.v (.string ⟨#[]⟩)),.d (.v (.string ⟨#[]⟩)),.d (.v (.slice none 0 0))],[(0, 3),(3, 3),(6, 3),(9, 3),(12, 3),(15, 1)],none,false,[23, 23, 23, 23, 23, 53],none⟩),
   (59, ⟨1, 16,false,[.d (.v (.nilIface))],[],none,false,[],none⟩),
   (60, ⟨6, 80,true,[.d (.v (.bool false)),.d (.v (.string ⟨#[]⟩)),.d (.v (.string ⟨#[]⟩)),.d (.v (.bool false)),.d (.v (.string ⟨#[]⟩)),.d (.v (.string ⟨#[]⟩))],[(0, 3),(3, 3)],none,false,[23, 23],none⟩),
   (103, ⟨6, 112,true,[.d (.v (.bool false)),.d (.v (.slice none 0 0)),.d (.v (.slice none 0 0)),.d (.v (.bool false)),.d (.v (.slice none 0 0)),.d (.v (.slice none 0 0))],[(0, 3),(3, 3)],none,false,[51, 51],none⟩),
   (104, ⟨6, 112,true,[.d (.v (.bool false)),.d (.v (.slice none 0 0)),.d (.v (.slice none 0 0)),.d (.v (.bool false)),.d (.v (.slice none 0 0)),.d (.v (.slice none 0 0))],[(0, 3),(3, 3)],none,false,[51, 51],none⟩),
   (122, ⟨2, 32,true,[.d (.v (.int .i64 (0))),.d (.v (.slice none 0 0))],[(0, 1),(1, 1)],none,false,[3, 33],none⟩),
   (128, ⟨12, 160,true,[.d (.v (.bool false)),.d (.v (.string ⟨#[]⟩)),.d (.v (.string ⟨#[]⟩)),.d (.v (.bool false)),.d (.v (.string ⟨#[]⟩)),.d (.v (.string ⟨#[]⟩)),.d (.v (.bool false)),.d (.v (.string ⟨#[]⟩)),.d (.v (.string ⟨#[]⟩)),.d (.v (.bool false)),.d (.v (.string ⟨#[]⟩)),.d (.v (.string ⟨#[]⟩))],[(0, 6),(6, 6)],none,false,[25, 25],none⟩),
   (150, ⟨1, 8,false,[.d (.v (.int .u64 (0)))],[],none,false,[],none⟩),
   (155, ⟨1, 8,false,[.d (.v (.int .u64 (0)))],[],none,false,[],none⟩),(160, ⟨6, 112,true,[.d (.v (.bool false)),.d (.v (.slice none 0 0)),.d (.v (.slice none 0 0)),.d (.v (.bool false)),.d (.v (.slice none 0 0)),.d (.v (.slice none 0 0))],[(0, 3),(3, 3)],none,false,[51, 51],none⟩),
   (161, ⟨6, 112,true,[.d (.v (.bool false)),.d (.v (.slice none 0 0)),.d (.v (.slice none 0 0)),.d (.v (.bool false)),.d (.v (.slice none 0 0)),.d (.v (.slice none 0 0))],[(0, 3),(3, 3)],none,false,[51, 51],none⟩),
   (164, ⟨16, 224,true,[.d (.v (.bool false)),.d (.v (.string ⟨#[]⟩)),.d (.v (.string ⟨#[]⟩)),.d (.v (.bool false)),.d (.v (.string ⟨#[]⟩)),.d (.v (.string ⟨#[]⟩)),.d (.v (.bool false)),.d (.v (.string ⟨#[]⟩)),.d (.v (.string ⟨#[]⟩)),.d (.v (.bool false)),.d (.v (.string ⟨#[]⟩)),.d (.v (.string ⟨#[]⟩)),.d (.v (.bool false)),.d (.v (.string ⟨#[]⟩)),.d (.v (.string ⟨#[]⟩)),.d (.v (.slice none 0 0))],[(0, 16)],none,false,[55],none⟩),
   (165, ⟨16, 224,true,[.d (.v (.bool false)),.d (.v (.string ⟨#[]⟩)),.d (.v (.string ⟨#[]⟩)),.d (.v (.bool false)),.d (.v (.string ⟨#[]⟩)),.d (.v (.string ⟨#[]⟩)),.d (.v (.bool false)),.d (.v (.string ⟨#[]⟩)),.d (.v (.string ⟨#[]⟩)),.d (.v (.bool false)),.d (.v (.string ⟨#[]⟩)),.d (.v (.string ⟨#[]⟩)),.d (.v (.bool false)),.d (.v (.string ⟨#[]⟩)),.d (.v (.string ⟨#[]⟩)),.d (.v (.slice none 0 0))],[(0, 16)],none,false,[55],none⟩),
   (168, ⟨1, 4,false,[.d (.v (.int .u32 (0)))],[],none,false,[],none⟩),
   (195, ⟨12, 224,true,[.d (.v (.bool false)),.d (.v (.slice none 0 0)),.d (.v (.slice none 0 0)),.d (.v (.bool false)),.d (.v (.slice none 0 0)),.d (.v (.slice none 0 0)),.d (.v (.bool false)),.d (.v (.slice none 0 0)),.d (.v (.slice none 0 0)),.d (.v (.bool false)),.d (.v (.slice none 0 0)),.d (.v (.slice none 0 0))],[(0, 3),(3, 3),(6, 3),(9, 3)],none,false,[51, 51, 51, 51],none⟩),
   (196, ⟨12, 224,true,[.d (.v (.bool false)),.d (.v (.slice none 0 0)),.d (.v (.slice none 0 0)),.d (.v (.bool false)),.d (.v (.slice none 0 0)),.d (.v (.slice none 0 0)),.d (.v (.bool false)),.d (.v (.slice none 0 0)),.d (.v (.slice none 0 0)),.d (.v (.bool false)),.d (.v (.slice none 0 0)),.d (.v (.slice none 0 0))],[(0, 3),(3, 3),(6, 3),(9, 3)],none,false,[51, 51, 51, 51],none⟩),
   (226, ⟨3, 40,true,[.d (.v (.bool false)),.d (.v (.string ⟨#[]⟩)),.d (.v (.string ⟨#[]⟩))],[(0, 1),(1, 1),(2, 1)],none,false,[4, 9, 9],none⟩),
   (227, ⟨3, 40,true,[.d (.v (.bool false)),.d (.v (.string ⟨#[]⟩)),.d (.v (.string ⟨#[]⟩))],[(0, 1),(1, 1),(2, 1)],none,false,[4, 9, 9],none⟩),
   (271, ⟨12, 224,true,[.d (.v (.bool false)),.d (.v (.slice none 0 0)),.d (.v (.slice none 0 0)),.d (.v (.bool false)),.d (.v (.slice none 0 0)),.d (.v (.slice none 0 0)),.d (.v (.bool false)),.d (.v (.slice none 0 0)),.d (.v (.slice none 0 0)),.d (.v (.bool false)),.d (.v (.slice none 0 0)),.d (.v (.slice none 0 0))],[],none,false,[],some (2, 161)⟩),
   (299, ⟨8, 8,true,[.d (.v (.int .u8 (0))),.d (.v (.int .u8 (0))),.d (.v (.int .u8 (0))),.d (.v (.int .u8 (0))),.d (.v (.int .u8 (0))),.d (.v (.int .u8 (0))),.d (.v (.int .u8 (0))),.d (.v (.int .u8 (0)))],[],none,false,[],some (8, 5)⟩),
   (308, ⟨24, 320,true,[.d (.v (.bool false)),.d (.v (.string ⟨#[]⟩)),.d (.v (.string ⟨#[]⟩)),.d (.v (.bool false)),.d (.v (.string ⟨#[]⟩)),.d (.v (.string ⟨#[]⟩)),.d (.v (.bool false)),.d (.v (.string ⟨#[]⟩)),.d (.v (.string ⟨#[]⟩)),.d (.v (.bool false)),.d (.v (.string ⟨#[]⟩)),.d (.v (.string ⟨#[]⟩)),.d (.v (.bool false)),.d (.v (.string ⟨#[]⟩)),.d (.v (.string ⟨#[]⟩)),.d (.v (.bool false)),.d (.v (.string ⟨#[]⟩)),.d (.v (.string ⟨#[]⟩)),.d (.v (.bool false)),.d (.v (.string ⟨#[]⟩)),.d (.v (.string ⟨#[]⟩)),.d (.v (.bool false)),.d (.v (.string ⟨#[]⟩)),.d (.v (.string ⟨#[]⟩))],[(0, 6),(6, 6),(12, 6),(18, 6)],none,false,[61, 61, 61, 61],none⟩),(309, ⟨24, 320,true,[.d (.v (.bool false)),.d (.v (.string ⟨#[]⟩)),.d (.v (.string ⟨#[]⟩)),.d (.v (.bool false)),.d (.v (.string ⟨#[]⟩)),.d (.v (.string ⟨#[]⟩)),.d (.v (.bool false)),.d (.v (.string ⟨#[]⟩)),.d (.v (.string ⟨#[]⟩)),.d (.v (.bool false)),.d (.v (.string ⟨#[]⟩)),.d (.v (.string ⟨#[]⟩)),.d (.v (.bool false)),.d (.v (.string ⟨#[]⟩)),.d (.v (.string ⟨#[]⟩)),.d (.v (.bool false)),.d (.v (.string ⟨#[]⟩)),.d (.v (.string ⟨#[]⟩)),.d (.v (.bool false)),.d (.v (.string ⟨#[]⟩)),.d (.v (.string ⟨#[]⟩)),.d (.v (.bool false)),.d (.v (.string ⟨#[]⟩)),.d (.v (.string ⟨#[]⟩))],[(0, 6),(6, 6),(12, 6),(18, 6)],none,false,[61, 61, 61, 61],none⟩),
   (318, ⟨24, 448,true,[.d (.v (.bool false)),.d (.v (.slice none 0 0)),.d (.v (.slice none 0 0)),.d (.v (.bool false)),.d (.v (.slice none 0 0)),.d (.v (.slice none 0 0)),.d (.v (.bool false)),.d (.v (.slice none 0 0)),.d (.v (.slice none 0 0)),.d (.v (.bool false)),.d (.v (.slice none 0 0)),.d (.v (.slice none 0 0)),.d (.v (.bool false)),.d (.v (.slice none 0 0)),.d (.v (.slice none 0 0)),.d (.v (.bool false)),.d (.v (.slice none 0 0)),.d (.v (.slice none 0 0)),.d (.v (.bool false)),.d (.v (.slice none 0 0)),.d (.v (.slice none 0 0)),.d (.v (.bool false)),.d (.v (.slice none 0 0)),.d (.v (.slice none 0 0))],[(0, 6),(6, 6),(12, 6),(18, 6)],none,false,[161, 161, 161, 161],none⟩),
   (319, ⟨24, 448,true,[.d (.v (.bool false)),.d (.v (.slice none 0 0)),.d (.v (.slice none 0 0)),.d (.v (.bool false)),.d (.v (.slice none 0 0)),.d (.v (.slice none 0 0)),.d (.v (.bool false)),.d (.v (.slice none 0 0)),.d (.v (.slice none 0 0)),.d (.v (.bool false)),.d (.v (.slice none 0 0)),.d (.v (.slice none 0 0)),.d (.v (.bool false)),.d (.v (.slice none 0 0)),.d (.v (.slice none 0 0)),.d (.v (.bool false)),.d (.v (.slice none 0 0)),.d (.v (.slice none 0 0)),.d (.v (.bool false)),.d (.v (.slice none 0 0)),.d (.v (.slice none 0 0)),.d (.v (.bool false)),.d (.v (.slice none 0 0)),.d (.v (.slice none 0 0))],[(0, 6),(6, 6),(12, 6),(18, 6)],none,false,[161, 161, 161, 161],none⟩),
   (349, ⟨2, 2,true,[.d (.v (.int .u8 (0))),.d (.v (.int .u8 (0)))],[(0, 1),(1, 1)],none,false,[5, 5],none⟩),
   (350, ⟨2, 2,true,[.d (.v (.int .u8 (0))),.d (.v (.int .u8 (0)))],[(0, 1),(1, 1)],none,false,[5, 5],none⟩)]
theorem TBall.mem {P : Program} {L : List (Nat × Ty)} (h : TBall P L) {e : Nat × Ty} (he : e ∈ L) : tyOf P e.1 = some e.2 := by
  induction L with
  | nil => simp at he
  | cons x r ih =>
    rcases List.mem_cons.1 he with rfl | he
    · exact h.1
    · exact ih h.2 he
set_option maxRecDepth 100000 in
theorem Zof : TB = TB0 ++ TB1 ++ TB2 ++ TB3 ++ TB4 ++ TB5 ++ TB6 := by kernel_rfl
theorem Zoe : TBok Tryz.prog TB := by
  intro t ty h
  rw [Zof] at h
  simp only [List.mem_append] at h
  rcases h with (((((h | h) | h) | h) | h) | h) | h
  · exact TBall.mem (e := (t, ty)) Zno h
  · exact TBall.mem (e := (t, ty)) Znn h
  · exact TBall.mem (e := (t, ty)) Znm h
  · exact TBall.mem (e := (t, ty)) Znl h
  · exact TBall.mem (e := (t, ty)) Znk h
  · exact TBall.mem (e := (t, ty)) Znj h
  · exact TBall.mem (e := (t, ty)) Zni h
def prmOf (P : Program) (nt : Nat) : Prm := ⟨P, Tab, TB, nt,[]⟩
def prmOwn (P : Program) (nt : Nat) (own : List Nat) : Prm := ⟨P, Tab, TB, nt, own⟩
theorem mixed : Tryz.prog.follows .mixedOrders = true := by kernel_rfl
end Go.Proofs.YtpfemjpgbpnpkaaGreatDoor.eng
